/- The pure statement of the law FnExactTimesToThin: what its printed functions compute is true for every input. No conditions. -/
import Derived.Test.YtpgjoagbmljmnaaPFnExactTimesToThinx3
import Derived.Test.YtpgjoagbmljmnaaPl
namespace Go.Proofs.Ytpgjoagbmljmnaa.Pure
open Go.RowKit Go.Proofs.Ytpgjoagbmljmnaa.PFnExactTimesToThin Go.Proofs.YtpgjoagbmljmnaaW.PrintWords Go.Proofs.YtpgjoagbmljmnaaW.PrintLast Go.Proofs.Ytpgjoagbmljmnaa.Pl
set_option linter.unusedVariables false
set_option linter.unusedSimpArgs false

theorem within_val (x a b : Int) : impl_within.f x a b = some (decide (a ≤ x ∧ x ≤ b)) := by
  unfold impl_within.f
  by_cases h : a ≤ x <;> simp [h]
theorem in_val (x a b : Int) : spec_l1In.f x a b = some (decide (a ≤ x ∧ x ≤ b)) := within_val x a b
theorem abs_val (x : Int) : spec_l1Abs.f x = some (if x > wrap64 (-x) then x else wrap64 (-x)) := by
  unfold spec_l1Abs.f spec_l1Most.f
  split <;> rfl
theorem low_fit {n d : Int} (hn0 : -9223372036854775807 ≤ n) (hn1 : n ≤ 9223372036854775807) (hd0 : 0 < d) (hd1 : d ≤ 9223372036854775807) :
    wrap64 (Int.tdiv n (Int.gcd n d)) = (low n d).1 ∧ wrap64 (Int.tdiv d (Int.gcd n d)) = (low n d).2 := by
  have h1 := tdiv_bound n (Int.gcd n d)
  have h2 := tdiv_bound d (Int.gcd n d)
  exact ⟨w64 (by omega) (by omega), w64 (by omega) (by omega)⟩
theorem lowest_ev {n d : Int} (hn0 : -9223372036854775807 ≤ n) (hn1 : n ≤ 9223372036854775807) (hd0 : 0 < d) (hd1 : d ≤ 9223372036854775807) : Ev (fun k => impl_lowest.f k n d) (low n d) := by
  obtain ⟨K, h⟩ := gcd_ev (l0 := impl_gcd.l0) (fun _ _ _ => rfl) (a := n) (b := d) hn0 hn1 (by omega) hd1
  dsimp only at h
  have hp := gcd_pos (a := n) (b := d) (by omega)
  refine ⟨K, fun k hk => ?_⟩
  show impl_lowest.f k n d = _
  unfold impl_lowest.f impl_gcd.f
  rw [h k hk, Option.bind_some, if_neg (by omega), if_neg (by omega), (low_fit hn0 hn1 hd0 hd1).1, (low_fit hn0 hn1 hd0 hd1).2]
theorem common_abs_ev {n d : Int} (hn0 : -9223372036854775807 ≤ n) (hn1 : n ≤ 9223372036854775807) (hd0 : 0 ≤ d) : Ev (fun k => spec_veCommon.f k (if n > wrap64 (-n) then n else wrap64 (-n)) d) (Int.gcd n d : Int) := by
  have hw : wrap64 (-n) = -n := w64 (by omega) (by omega)
  have := common_ev (l0 := spec_veCommon.l0) (fun _ _ _ => rfl) (a := if n > wrap64 (-n) then n else wrap64 (-n)) (b := d) (by rw [hw]; split <;> omega) hd0
  rw [(gcd_abs n d).resolve_right (by omega)] at this
  exact this
/-- a ratio of chapter 7 -/
def isR (n d : Int) : Bool := decide (-1000000000 ≤ n ∧ n ≤ 1000000000 ∧ 1 ≤ d ∧ d ≤ 1000000000 ∧ Int.gcd n d = 1)
theorem isR_ev (n d : Int) : Ev (fun k => impl_IsRatio.f k n d) (isR n d) := by
  by_cases h1 : 1 ≤ d ∧ d ≤ 1000000000
  · by_cases h2 : -1000000000 ≤ n ∧ n ≤ 1000000000
    · obtain ⟨K, h⟩ := gcd_ev (l0 := impl_gcd.l0) (fun _ _ _ => rfl) (a := n) (b := d) (by omega) (by omega) (by omega) (by omega)
      dsimp only at h
      refine ⟨K, fun k hk => ?_⟩
      show impl_IsRatio.f k n d = _
      unfold impl_IsRatio.f impl_gcd.f isR
      rw [within_val, Option.bind_some, decide_eq_true h1, if_pos rfl, within_val, Option.bind_some, decide_eq_true h2, if_pos rfl, h k hk, Option.bind_some]
      congr 1
      by_cases e : Int.gcd n d = 1
      · rw [decide_eq_true (by omega)]
        simp [e]
      · rw [decide_eq_false (by omega)]
        simp
        omega
    · refine ⟨0, fun k hk => ?_⟩
      show impl_IsRatio.f k n d = _
      unfold impl_IsRatio.f isR
      rw [within_val, Option.bind_some, decide_eq_true h1, if_pos rfl, within_val, Option.bind_some, decide_eq_false h2, if_neg (by decide), decide_eq_false (by omega)]
  · refine ⟨0, fun k hk => ?_⟩
    show impl_IsRatio.f k n d = _
    unfold impl_IsRatio.f isR
    rw [within_val, Option.bind_some, decide_eq_false h1, if_neg (by decide), decide_eq_false (by omega)]
theorem saGood_ev (n d : Int) : Ev (fun k => spec_saGood.f k n d) (isR n d) := by
  by_cases h2 : -1000000000 ≤ n ∧ n ≤ 1000000000
  · by_cases h1 : 1 ≤ d ∧ d ≤ 1000000000
    · obtain ⟨K, h⟩ := common_abs_ev (n := n) (d := d) (by omega) (by omega) (by omega)
      dsimp only at h
      refine ⟨K, fun k hk => ?_⟩
      show spec_saGood.f k n d = _
      unfold spec_saGood.f isR
      rw [in_val, Option.bind_some, decide_eq_true h2, if_pos rfl, in_val, Option.bind_some, decide_eq_true h1, if_pos rfl, abs_val, Option.bind_some, h k hk, Option.bind_some]
      congr 1
      by_cases e : Int.gcd n d = 1
      · rw [decide_eq_true (by omega)]
        simp [e]
      · rw [decide_eq_false (by omega)]
        simp
        omega
    · refine ⟨0, fun k hk => ?_⟩
      show spec_saGood.f k n d = _
      unfold spec_saGood.f isR
      rw [in_val, Option.bind_some, decide_eq_true h2, if_pos rfl, in_val, Option.bind_some, decide_eq_false h1, if_neg (by decide), decide_eq_false (by omega)]
  · refine ⟨0, fun k hk => ?_⟩
    show spec_saGood.f k n d = _
    unfold spec_saGood.f isR
    rw [in_val, Option.bind_some, decide_eq_false h2, if_neg (by decide), decide_eq_false (by omega)]
theorem mul_bound {n m : Int} (h0 : -1000000000 ≤ n) (h1 : n ≤ 1000000000) (h2 : 0 ≤ m) (h3 : m ≤ 60) : -60000000000 ≤ n * m ∧ n * m ≤ 60000000000 := by
  have a := Int.mul_le_mul_of_nonneg_right h1 h2
  have b := Int.mul_le_mul_of_nonneg_right h0 h2
  omega
theorem isR_bound {n d : Int} (h : isR n d = true) : -1000000000 ≤ n ∧ n ≤ 1000000000 ∧ 1 ≤ d ∧ d ≤ 1000000000 := by
  have := of_decide_eq_true h
  omega
/-- the share behind m steps from n / d -/
def thin (s t : Int) : Nat → Int → Int → Int × Int × Bool
  | 0, n, d => (n, d, true)
  | m + 1, n, d => if isR (low (n * (s - t)) (d * s)).1 (low (n * (s - t)) (d * s)).2 = true then thin s t m (low (n * (s - t)) (d * s)).1 (low (n * (s - t)) (d * s)).2 else (0, 0, false)
theorem made_ev {n d : Int} (hn0 : -60000000000 ≤ n) (hn1 : n ≤ 60000000000) (hd0 : 0 < d) (hd1 : d ≤ 60000000000) : Ev (fun k => impl_made.f k n d) ((low n d).1, (low n d).2, isR (low n d).1 (low n d).2) := by
  obtain ⟨K1, k1⟩ := lowest_ev (n := n) (d := d) (by omega) (by omega) hd0 (by omega)
  dsimp only at k1
  obtain ⟨K2, k2⟩ := isR_ev (low n d).1 (low n d).2
  dsimp only at k2
  refine ⟨max K1 K2, fun k hk => ?_⟩
  show impl_made.f k n d = _
  unfold impl_made.f
  simp only [k1 k (by omega), Option.bind_some, k2 k (by omega)]
theorem saRatio_ev {n d : Int} (hn0 : -60000000000 ≤ n) (hn1 : n ≤ 60000000000) (hd0 : 0 < d) (hd1 : d ≤ 60000000000) : Ev (fun k => spec_saRatio.f k n d) ((low n d).1, (low n d).2, isR (low n d).1 (low n d).2) := by
  obtain ⟨K1, k1⟩ := common_abs_ev (n := n) (d := d) (by omega) (by omega) (by omega)
  dsimp only at k1
  obtain ⟨K2, k2⟩ := saGood_ev (low n d).1 (low n d).2
  dsimp only at k2
  have hp := gcd_pos (a := n) (b := d) (by omega)
  have hz : ¬ ((Int.gcd n d : Int) = 0) := by omega
  refine ⟨max K1 K2, fun k hk => ?_⟩
  show spec_saRatio.f k n d = _
  unfold spec_saRatio.f
  simp only [abs_val, Option.bind_some, k1 k (by omega), if_neg hz, (low_fit (by omega : -9223372036854775807 ≤ n) (by omega) hd0 (by omega)).1, (low_fit (by omega : -9223372036854775807 ≤ n) (by omega) hd0 (by omega)).2, k2 k (by omega)]
theorem saThin_ev {s t : Int} (hs0 : 1 ≤ s) (hs1 : s ≤ 60) (ht0 : 0 ≤ t) (ht1 : t ≤ s) (m : Nat) : ∀ (n d : Int), -1000000000 ≤ n → n ≤ 1000000000 → 1 ≤ d → d ≤ 1000000000 → (m : Int) ≤ 50 → Ev (fun k => spec_saThin.l0 k s t m n d) (thin s t m n d) := by
  induction m with
  | zero =>
    intro n d _ _ _ _ _
    refine Ev.step (f := fun _ => some (n, d, true)) (fun k => ?_) (Ev.now _)
    simp only [spec_saThin.l0]
    rw [if_neg (by omega)]
  | succ m ih =>
    intro n d h0 h1 h2 h3 hm
    have e1 : wrap64 (s - t) = s - t := w64 (by omega) (by omega)
    have b1 := mul_bound h0 h1 (m := s - t) (by omega) (by omega)
    have b2 := mul_bound (n := d) (m := s) (by omega) h3 (by omega) (by omega)
    have b3 : 0 < d * s := Int.mul_pos (by omega) (by omega)
    have e2 : wrap64 (n * (s - t)) = n * (s - t) := w64 (by omega) (by omega)
    have e3 : wrap64 (d * s) = d * s := w64 (by omega) (by omega)
    have e4 : wrap64 (((m + 1 : Nat) : Int) - 1) = m := by rw [w64 (by omega) (by omega)]; omega
    obtain ⟨K, k1⟩ := saRatio_ev (n := n * (s - t)) (d := d * s) b1.1 b1.2 b3 b2.2
    dsimp only at k1
    cases hR : isR (low (n * (s - t)) (d * s)).1 (low (n * (s - t)) (d * s)).2 with
    | true =>
      have bb := isR_bound hR
      obtain ⟨K2, k2⟩ := ih _ _ bb.1 bb.2.1 bb.2.2.1 bb.2.2.2 (by omega)
      dsimp only at k2
      refine ⟨max K K2 + 1, fun k hk => ?_⟩
      obtain ⟨k, rfl⟩ : ∃ j, k = j + 1 := ⟨k - 1, by omega⟩
      show spec_saThin.l0 (k + 1) s t ((m + 1 : Nat) : Int) n d = _
      simp only [spec_saThin.l0, thin, hR, if_true]
      rw [if_pos (by omega)]
      unfold spec_saTimes.f
      rw [e1, e2, e3, k1 k (by omega)]
      simp only [Option.bind_some, hR, if_true, e4]
      exact k2 k (by omega)
    | false =>
      refine ⟨K + 1, fun k hk => ?_⟩
      obtain ⟨k, rfl⟩ : ∃ j, k = j + 1 := ⟨k - 1, by omega⟩
      show spec_saThin.l0 (k + 1) s t ((m + 1 : Nat) : Int) n d = _
      simp only [spec_saThin.l0, thin, hR, Bool.false_eq_true, if_false]
      rw [if_pos (by omega)]
      unfold spec_saTimes.f
      rw [e1, e2, e3, k1 k (by omega)]
      simp only [Option.bind_some, hR, Bool.false_eq_true, if_false]
theorem implThin_ev {s t T : Int} (hs0 : 1 ≤ s) (hs1 : s ≤ 60) (ht0 : 0 ≤ t) (ht1 : t ≤ s) (hT : T ≤ 50) (m : Nat) : ∀ (i n d : Int), 0 ≤ i → T - i = m → -1000000000 ≤ n → n ≤ 1000000000 → 1 ≤ d → d ≤ 1000000000 → Ev (fun k => impl_ThinShare.l0 k s t T i n d) (thin s t m n d) := by
  induction m with
  | zero =>
    intro i n d _ hi _ _ _ _
    refine Ev.step (f := fun _ => some (n, d, true)) (fun k => ?_) (Ev.now _)
    simp only [impl_ThinShare.l0]
    rw [if_neg (by omega)]
  | succ m ih =>
    intro i n d hi0 hi h0 h1 h2 h3
    have e1 : wrap64 (s - t) = s - t := w64 (by omega) (by omega)
    have b1 := mul_bound h0 h1 (m := s - t) (by omega) (by omega)
    have b2 := mul_bound (n := d) (m := s) (by omega) h3 (by omega) (by omega)
    have b3 : 0 < d * s := Int.mul_pos (by omega) (by omega)
    have e2 : wrap64 (n * (s - t)) = n * (s - t) := w64 (by omega) (by omega)
    have e3 : wrap64 (d * s) = d * s := w64 (by omega) (by omega)
    have e4 : wrap64 (i + 1) = i + 1 := w64 (by omega) (by omega)
    obtain ⟨K, k1⟩ := made_ev (n := n * (s - t)) (d := d * s) b1.1 b1.2 b3 b2.2
    dsimp only at k1
    cases hR : isR (low (n * (s - t)) (d * s)).1 (low (n * (s - t)) (d * s)).2 with
    | true =>
      have bb := isR_bound hR
      obtain ⟨K2, k2⟩ := ih (i + 1) _ _ (by omega) (by omega) bb.1 bb.2.1 bb.2.2.1 bb.2.2.2
      dsimp only at k2
      refine ⟨max K K2 + 1, fun k hk => ?_⟩
      obtain ⟨k, rfl⟩ : ∃ j, k = j + 1 := ⟨k - 1, by omega⟩
      show impl_ThinShare.l0 (k + 1) s t T i n d = _
      simp only [impl_ThinShare.l0, thin, hR, if_true]
      rw [if_pos (by omega), e1, e2, e3, k1 k (by omega)]
      simp only [Option.bind_some, hR, if_true, e4]
      exact k2 k (by omega)
    | false =>
      refine ⟨K + 1, fun k hk => ?_⟩
      obtain ⟨k, rfl⟩ : ∃ j, k = j + 1 := ⟨k - 1, by omega⟩
      show impl_ThinShare.l0 (k + 1) s t T i n d = _
      simp only [impl_ThinShare.l0, thin, hR, Bool.false_eq_true, if_false]
      rw [if_pos (by omega), e1, e2, e3, k1 k (by omega)]
      simp only [Option.bind_some, hR, Bool.false_eq_true, if_false]
theorem isThin_val (s t : Int) : impl_isThin.f s t = some (decide ((1 ≤ s ∧ s ≤ 60) ∧ 0 ≤ t ∧ t ≤ s)) := by
  unfold impl_isThin.f
  by_cases h1 : 1 ≤ s ∧ s ≤ 60 <;> simp [within_val, h1]
theorem saThins_val (s t : Int) : spec_saThins.f s t = some (decide ((1 ≤ s ∧ s ≤ 60) ∧ 0 ≤ t ∧ t ≤ s)) := by
  unfold spec_saThins.f
  by_cases h1 : 1 ≤ s ∧ s ≤ 60 <;> simp [in_val, h1]
theorem implThinShare_ev {s t T : Int} (h : (1 ≤ s ∧ s ≤ 60) ∧ 0 ≤ t ∧ t ≤ s) (hT0 : 0 ≤ T) (hT1 : T ≤ 50) : Ev (fun k => impl_ThinShare.f k s t T) (thin s t T.toNat 1 1) := by
  obtain ⟨K, k1⟩ := implThin_ev h.1.1 h.1.2 h.2.1 h.2.2 hT1 T.toNat 0 1 1 (by omega) (by omega) (by omega) (by omega) (by omega) (by omega)
  dsimp only at k1
  refine ⟨K + 1, fun k hk => ?_⟩
  obtain ⟨k, rfl⟩ : ∃ j, k = j + 1 := ⟨k - 1, by omega⟩
  have hT : 0 ≤ T ∧ T ≤ 50 := ⟨hT0, hT1⟩
  show impl_ThinShare.f (k + 1) s t T = _
  unfold impl_ThinShare.f
  simp only [isThin_val, h, decide_true, Option.bind_some, if_true, within_val, hT, and_self, impl_ThinShare.j0, Bool.not_true, Bool.false_eq_true, if_false]
  exact k1 k (by omega)
/-- the least number of steps from i on -/
def times (s t n d : Int) : Nat → Int → Int × Bool
  | 0, _ => (0, false)
  | m + 1, i => if (thin s t i.toNat 1 1).2.2 = true then (if wrap64 (n * (thin s t i.toNat 1 1).2.1) < wrap64 ((thin s t i.toNat 1 1).1 * d) then times s t n d m (i + 1) else (i, true)) else (0, false)
theorem implTimes_ev {s t n d : Int} (h : (1 ≤ s ∧ s ≤ 60) ∧ 0 ≤ t ∧ t ≤ s) (m : Nat) : ∀ i : Int, 0 ≤ i → 51 - i = m → Ev (fun k => impl_TimesToThin.l0 k s t i n d) (times s t n d m i) := by
  induction m with
  | zero =>
    intro i h0 hi
    refine Ev.step (f := fun _ => some (0, false)) (fun k => ?_) (Ev.now _)
    simp only [impl_TimesToThin.l0]
    rw [if_neg (by omega)]
  | succ m ih =>
    intro i h0 hi
    obtain ⟨K, k1⟩ := implThinShare_ev h (T := i) h0 (by omega)
    dsimp only at k1
    obtain ⟨K2, k2⟩ := ih (i + 1) (by omega) (by omega)
    dsimp only at k2
    have e4 : wrap64 (i + 1) = i + 1 := w64 (by omega) (by omega)
    refine ⟨max K K2 + 1, fun k hk => ?_⟩
    obtain ⟨k, rfl⟩ : ∃ j, k = j + 1 := ⟨k - 1, by omega⟩
    show impl_TimesToThin.l0 (k + 1) s t i n d = _
    simp only [impl_TimesToThin.l0, times]
    rw [if_pos (by omega), k1 k (by omega)]
    simp only [Option.bind_some, impl_Ratio_isLess.f, e4, k2 k (by omega), decide_eq_true_eq]
    split
    · split <;> rfl
    · rfl
theorem specTimes_ev {s t n d : Int} (h : (1 ≤ s ∧ s ≤ 60) ∧ 0 ≤ t ∧ t ≤ s) (m : Nat) : ∀ i : Int, 0 ≤ i → 51 - i = m → Ev (fun k => spec_TimesToThin.l0 k s t i n d) (times s t n d m i) := by
  induction m with
  | zero =>
    intro i h0 hi
    refine Ev.step (f := fun _ => some (0, false)) (fun k => ?_) (Ev.now _)
    simp only [spec_TimesToThin.l0]
    rw [if_neg (by omega)]
  | succ m ih =>
    intro i h0 hi
    obtain ⟨K, k1⟩ := saThin_ev h.1.1 h.1.2 h.2.1 h.2.2 i.toNat 1 1 (by omega) (by omega) (by omega) (by omega) (by omega)
    dsimp only at k1
    rw [Int.toNat_of_nonneg h0] at k1
    obtain ⟨K2, k2⟩ := ih (i + 1) (by omega) (by omega)
    dsimp only at k2
    have e4 : wrap64 (i + 1) = i + 1 := w64 (by omega) (by omega)
    refine ⟨max K K2 + 1, fun k hk => ?_⟩
    obtain ⟨k, rfl⟩ : ∃ j, k = j + 1 := ⟨k - 1, by omega⟩
    show spec_TimesToThin.l0 (k + 1) s t i n d = _
    simp only [spec_TimesToThin.l0, times]
    rw [if_pos (by omega)]
    unfold spec_saThin.f
    rw [k1 k (by omega)]
    simp only [Option.bind_some, e4, k2 k (by omega)]
    split
    · by_cases c : wrap64 ((thin s t i.toNat 1 1).1 * d) ≤ wrap64 (n * (thin s t i.toNat 1 1).2.1)
      · rw [if_pos c, if_neg (by omega)]
      · rw [if_neg c, if_pos (by omega)]
    · rfl
theorem both_ev (s t n d : Int) : ∃ r : Int × Bool, Ev (fun k => spec_TimesToThin.f k s t n d) r ∧ Ev (fun k => impl_TimesToThin.f k s t n d) r := by
  obtain ⟨K3, k3⟩ := isR_ev n d
  dsimp only at k3
  obtain ⟨K4, k4⟩ := saGood_ev n d
  dsimp only at k4
  by_cases h1 : (1 ≤ s ∧ s ≤ 60) ∧ 0 ≤ t ∧ t ≤ s
  · obtain ⟨K1, k1⟩ := specTimes_ev (n := n) (d := d) h1 51 0 (by omega) (by omega)
    dsimp only at k1
    obtain ⟨K2, k2⟩ := implTimes_ev (n := n) (d := d) h1 51 0 (by omega) (by omega)
    dsimp only at k2
    refine ⟨if isR n d = true then times s t n d 51 0 else (0, false), ⟨max K1 K4 + 1, fun k hk => ?_⟩, ⟨max K2 K3 + 1, fun k hk => ?_⟩⟩
    · obtain ⟨k, rfl⟩ : ∃ j, k = j + 1 := ⟨k - 1, by omega⟩
      show spec_TimesToThin.f (k + 1) s t n d = _
      unfold spec_TimesToThin.f
      simp only [saThins_val, h1, decide_true, Option.bind_some, if_true, and_self, k4 (k + 1) (by omega), spec_TimesToThin.j0, k1 k (by omega)]
      cases isR n d <;> rfl
    · obtain ⟨k, rfl⟩ : ∃ j, k = j + 1 := ⟨k - 1, by omega⟩
      show impl_TimesToThin.f (k + 1) s t n d = _
      unfold impl_TimesToThin.f
      simp only [isThin_val, h1, decide_true, Option.bind_some, if_true, and_self, k3 (k + 1) (by omega), impl_TimesToThin.j0, k2 k (by omega)]
      cases isR n d <;> rfl
  · refine ⟨(0, false), ⟨1, fun k hk => ?_⟩, ⟨1, fun k hk => ?_⟩⟩
    · obtain ⟨k, rfl⟩ : ∃ j, k = j + 1 := ⟨k - 1, by omega⟩
      show spec_TimesToThin.f (k + 1) s t n d = _
      unfold spec_TimesToThin.f
      simp [saThins_val, h1, spec_TimesToThin.j0]
    · obtain ⟨k, rfl⟩ : ∃ j, k = j + 1 := ⟨k - 1, by omega⟩
      show impl_TimesToThin.f (k + 1) s t n d = _
      unfold impl_TimesToThin.f
      simp [isThin_val, h1, impl_TimesToThin.j0]
theorem FnExactTimesToThin : ∀ (a0 : Int) (a1 : Int) (a2_0 : Int) (a2_1 : Int), ((Lit.int .i64 a0).wf = true) → ((Lit.int .i64 a1).wf = true) → ((Lit.int .i64 a2_0).wf = true) → ((Lit.int .i64 a2_1).wf = true) → ∃ k, laws_FnExactTimesToThin.f k a0 a1 a2_0 a2_1 = some true := by
  intro s t n d _ _ _ _
  obtain ⟨r, ⟨K1, k1⟩, ⟨K2, k2⟩⟩ := both_ev s t n d
  refine ⟨max K1 K2, ?_⟩
  have k1 := k1 (max K1 K2) (by omega)
  have k2 := k2 (max K1 K2) (by omega)
  unfold laws_FnExactTimesToThin.f laws_toRatio.f
  simp [k1, k2]

end Go.Proofs.Ytpgjoagbmljmnaa.Pure

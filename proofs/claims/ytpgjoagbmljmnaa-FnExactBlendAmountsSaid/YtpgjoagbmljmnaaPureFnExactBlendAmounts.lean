/- The pure statement of the law FnExactBlendAmounts: what its printed functions compute is true for every input. No conditions. -/
import Derived.Test.YtpgjoagbmljmnaaPFnExactBlendAmountsx6
import Derived.Test.YtpgjoagbmljmnaaPl
namespace Go.Proofs.Ytpgjoagbmljmnaa.Pure
open Go.RowKit Go.Proofs.Ytpgjoagbmljmnaa.PFnExactBlendAmounts Go.Proofs.YtpgjoagbmljmnaaW.PrintWords Go.Proofs.YtpgjoagbmljmnaaW.PrintLast Go.Proofs.Ytpgjoagbmljmnaa.Pl
set_option linter.unusedVariables false
set_option linter.unusedSimpArgs false

theorem within_val (x a b : Int) : impl_within.f x a b = some (decide (a ≤ x ∧ x ≤ b)) := by
  unfold impl_within.f
  by_cases h : a ≤ x <;> simp [h]
theorem in_val (x a b : Int) : spec_l1In.f x a b = some (decide (a ≤ x ∧ x ≤ b)) := within_val x a b
theorem abs_val (x : Int) : spec_l1Abs.f x = some (if x > wrap64 (-x) then x else wrap64 (-x)) := by
  unfold spec_l1Abs.f spec_l1Most.f
  split <;> rfl
theorem common_abs_ev {n d : Int} (hn0 : -9223372036854775807 ≤ n) (hn1 : n ≤ 9223372036854775807) (hd0 : 0 ≤ d) : Ev (fun k => spec_veCommon.f k (if n > wrap64 (-n) then n else wrap64 (-n)) d) (Int.gcd n d : Int) := by
  have hw : wrap64 (-n) = -n := w64 (by omega) (by omega)
  have := common_ev (l0 := spec_veCommon.l0) (fun _ _ _ => rfl) (a := if n > wrap64 (-n) then n else wrap64 (-n)) (b := d) (by rw [hw]; split <;> omega) hd0
  rw [(gcd_abs n d).resolve_right (by omega)] at this
  exact this
/-- a ratio of chapter 7 -/
def isR (n d : Int) : Bool := decide (-1000000000 ≤ n ∧ n ≤ 1000000000 ∧ 1 ≤ d ∧ d ≤ 1000000000 ∧ Int.gcd n d = 1)
theorem isR_ev (n d : Int) : Ev (fun k => impl_IsRatio.f k n d) (isR n d) := by
  by_cases h1 : 1 ≤ d ∧ d ≤ 1000000000
  · by_cases h2 : -1000000000 ≤ n ∧ n ≤ 1000000000
    · obtain ⟨K, h⟩ := gcd_ev (l0 := impl_gcd.l0) (fun _ _ _ => rfl) (a := n) (b := d) (by omega) (by omega) (by omega) (by omega)
      dsimp only at h
      refine ⟨K, fun k hk => ?_⟩
      show impl_IsRatio.f k n d = _
      unfold impl_IsRatio.f impl_gcd.f isR
      rw [within_val, Option.bind_some, decide_eq_true h1, if_pos rfl, within_val, Option.bind_some, decide_eq_true h2, if_pos rfl, h k hk, Option.bind_some]
      congr 1
      by_cases e : Int.gcd n d = 1
      · rw [decide_eq_true (by omega)]
        simp [e]
      · rw [decide_eq_false (by omega)]
        simp
        omega
    · refine ⟨0, fun k hk => ?_⟩
      show impl_IsRatio.f k n d = _
      unfold impl_IsRatio.f isR
      rw [within_val, Option.bind_some, decide_eq_true h1, if_pos rfl, within_val, Option.bind_some, decide_eq_false h2, if_neg (by decide), decide_eq_false (by omega)]
  · refine ⟨0, fun k hk => ?_⟩
    show impl_IsRatio.f k n d = _
    unfold impl_IsRatio.f isR
    rw [within_val, Option.bind_some, decide_eq_false h1, if_neg (by decide), decide_eq_false (by omega)]
theorem saGood_ev (n d : Int) : Ev (fun k => spec_saGood.f k n d) (isR n d) := by
  by_cases h2 : -1000000000 ≤ n ∧ n ≤ 1000000000
  · by_cases h1 : 1 ≤ d ∧ d ≤ 1000000000
    · obtain ⟨K, h⟩ := common_abs_ev (n := n) (d := d) (by omega) (by omega) (by omega)
      dsimp only at h
      refine ⟨K, fun k hk => ?_⟩
      show spec_saGood.f k n d = _
      unfold spec_saGood.f isR
      rw [in_val, Option.bind_some, decide_eq_true h2, if_pos rfl, in_val, Option.bind_some, decide_eq_true h1, if_pos rfl, abs_val, Option.bind_some, h k hk, Option.bind_some]
      congr 1
      by_cases e : Int.gcd n d = 1
      · rw [decide_eq_true (by omega)]
        simp [e]
      · rw [decide_eq_false (by omega)]
        simp
        omega
    · refine ⟨0, fun k hk => ?_⟩
      show spec_saGood.f k n d = _
      unfold spec_saGood.f isR
      rw [in_val, Option.bind_some, decide_eq_true h2, if_pos rfl, in_val, Option.bind_some, decide_eq_false h1, if_neg (by decide), decide_eq_false (by omega)]
  · refine ⟨0, fun k hk => ?_⟩
    show spec_saGood.f k n d = _
    unfold spec_saGood.f isR
    rw [in_val, Option.bind_some, decide_eq_false h2, if_neg (by decide), decide_eq_false (by omega)]
/-- two numbers, each without their common factor -/
def cu (u v : Nat) : Nat := u / Nat.gcd u v
def cv (u v : Nat) : Nat := v / Nat.gcd u v
theorem cu_mul (u v : Nat) : Nat.gcd u v * cu u v = u := Nat.mul_div_cancel' (Nat.gcd_dvd_left u v)
theorem cv_mul (u v : Nat) : Nat.gcd u v * cv u v = v := Nat.mul_div_cancel' (Nat.gcd_dvd_right u v)
theorem cu_dvd (u v : Nat) : cu u v ∣ u := ⟨Nat.gcd u v, by rw [Nat.mul_comm]; exact (cu_mul u v).symm⟩
theorem cv_dvd (u v : Nat) : cv u v ∣ v := ⟨Nat.gcd u v, by rw [Nat.mul_comm]; exact (cv_mul u v).symm⟩
theorem cu_pos {u v : Nat} (h : 0 < u) : 0 < cu u v := Nat.pos_of_dvd_of_pos (cu_dvd u v) h
theorem cv_pos {u v : Nat} (h : 0 < v) : 0 < cv u v := Nat.pos_of_dvd_of_pos (cv_dvd u v) h
theorem cu_le (u v : Nat) : cu u v ≤ u := Nat.div_le_self _ _
theorem cv_le (u v : Nat) : cv u v ≤ v := Nat.div_le_self _ _
theorem c_coprime {u v : Nat} (h : 0 < u) : Nat.Coprime (cu u v) (cv u v) := Nat.coprime_div_gcd_div_gcd (Nat.gcd_pos_of_pos_left v h)
theorem c_cross (u v : Nat) : u * cv u v = cu u v * v := by
  have h1 := cu_mul u v
  have h2 := cv_mul u v
  calc u * cv u v = (Nat.gcd u v * cu u v) * cv u v := by rw [h1]
    _ = cu u v * (Nat.gcd u v * cv u v) := by ac_rfl
    _ = cu u v * v := by rw [h2]
/-- a fraction in lowest terms, and what it is -/
def Low (x y n d : Nat) : Prop := Nat.Coprime x y ∧ x * d = y * n
theorem low_one {x y x' y' n d : Nat} (hn : 0 < n) (hd : 0 < d) (hx : 0 < x) (h : Low x y n d) (h' : Low x' y' n d) : x = x' ∧ y = y' := by
  have e : x * y' = y * x' := by
    have : (x * y') * (d * n) = (y * x') * (d * n) := by
      calc (x * y') * (d * n) = (x * d) * (y' * n) := by ac_rfl
        _ = (y * n) * (x' * d) := by rw [h.2, h'.2]
        _ = (y * x') * (d * n) := by ac_rfl
    exact Nat.eq_of_mul_eq_mul_right (Nat.mul_pos hd hn) this
  have d1 : x ∣ x' := h.1.dvd_of_dvd_mul_left ⟨y', e.symm⟩
  have d2 : x' ∣ x := h'.1.dvd_of_dvd_mul_right ⟨y, by rw [e, Nat.mul_comm]⟩
  have e1 : x = x' := Nat.dvd_antisymm d1 d2
  refine ⟨e1, ?_⟩
  subst e1
  exact (Nat.eq_of_mul_eq_mul_left hx (by rw [e, Nat.mul_comm])).symm
/-- one number against three -/
def r0 (u v0 : Nat) : Nat := cu u v0
def rowU (u v0 v1 v2 : Nat) : Nat := cu (cu (cu u v0) v1) v2
def rowA (u v0 : Nat) : Nat := cv u v0
def rowB (u v0 v1 : Nat) : Nat := cv (cu u v0) v1
def rowC (u v0 v1 v2 : Nat) : Nat := cv (cu (cu u v0) v1) v2
theorem row_pos {u v0 v1 v2 : Nat} (h : 0 < u) (h0 : 0 < v0) (h1 : 0 < v1) (h2 : 0 < v2) : 0 < rowU u v0 v1 v2 ∧ 0 < rowA u v0 ∧ 0 < rowB u v0 v1 ∧ 0 < rowC u v0 v1 v2 :=
  ⟨cu_pos (cu_pos (cu_pos h)), cv_pos h0, cv_pos h1, cv_pos h2⟩
theorem row_le (u v0 v1 v2 : Nat) : rowU u v0 v1 v2 ≤ u ∧ rowA u v0 ≤ v0 ∧ rowB u v0 v1 ≤ v1 ∧ rowC u v0 v1 v2 ≤ v2 :=
  ⟨Nat.le_trans (cu_le _ _) (Nat.le_trans (cu_le _ _) (cu_le _ _)), cv_le _ _, cv_le _ _, cv_le _ _⟩
theorem row_dvd (u v0 v1 v2 : Nat) : rowA u v0 ∣ v0 ∧ rowB u v0 v1 ∣ v1 ∧ rowC u v0 v1 v2 ∣ v2 := ⟨cv_dvd _ _, cv_dvd _ _, cv_dvd _ _⟩
theorem row_coprime {u v0 v1 v2 : Nat} (h : 0 < u) : Nat.Coprime (rowU u v0 v1 v2) (rowA u v0) ∧ Nat.Coprime (rowU u v0 v1 v2) (rowB u v0 v1) ∧ Nat.Coprime (rowU u v0 v1 v2) (rowC u v0 v1 v2) :=
  ⟨Nat.Coprime.coprime_dvd_left (Nat.dvd_trans (cu_dvd _ _) (cu_dvd _ _)) (c_coprime h), Nat.Coprime.coprime_dvd_left (cu_dvd _ _) (c_coprime (cu_pos h)), c_coprime (cu_pos (cu_pos h))⟩
theorem row_cross (u v0 v1 v2 : Nat) : u * (rowA u v0 * rowB u v0 v1 * rowC u v0 v1 v2) = rowU u v0 v1 v2 * (v0 * v1 * v2) := by
  unfold rowA rowB rowC rowU
  calc u * (cv u v0 * cv (cu u v0) v1 * cv (cu (cu u v0) v1) v2) = (u * cv u v0) * (cv (cu u v0) v1 * cv (cu (cu u v0) v1) v2) := by ac_rfl
    _ = v0 * ((cu u v0) * cv (cu u v0) v1) * cv (cu (cu u v0) v1) v2 := by rw [c_cross]; ac_rfl
    _ = (v0 * v1) * (cu (cu u v0) v1 * cv (cu (cu u v0) v1) v2) := by rw [c_cross]; ac_rfl
    _ = cu (cu (cu u v0) v1) v2 * (v0 * v1 * v2) := by rw [c_cross]; ac_rfl
theorem co3 {x a b c : Nat} (h : Nat.Coprime x a ∧ Nat.Coprime x b ∧ Nat.Coprime x c) : Nat.Coprime x (a * b * c) := Nat.Coprime.mul_right (Nat.Coprime.mul_right h.1 h.2.1) h.2.2
/-- three numbers against three -/
theorem three_low {u0 u1 u2 v0 v1 v2 a0 a1 a2 b0 b1 b2 c0 c1 c2 p q r : Nat} (h0 : 0 < u0) (h1 : 0 < u1) (h2 : 0 < u2)
    (ep : p = rowU u0 v0 v1 v2) (ea0 : a0 = rowA u0 v0) (ea1 : a1 = rowB u0 v0 v1) (ea2 : a2 = rowC u0 v0 v1 v2)
    (eq : q = rowU u1 a0 a1 a2) (eb0 : b0 = rowA u1 a0) (eb1 : b1 = rowB u1 a0 a1) (eb2 : b2 = rowC u1 a0 a1 a2)
    (er : r = rowU u2 b0 b1 b2) (ec0 : c0 = rowA u2 b0) (ec1 : c1 = rowB u2 b0 b1) (ec2 : c2 = rowC u2 b0 b1 b2) : Low (p * q * r) (c0 * c1 * c2) (u0 * u1 * u2) (v0 * v1 * v2) := by
  have k0 := row_coprime (u := u0) (v0 := v0) (v1 := v1) (v2 := v2) h0
  have k1 := row_coprime (u := u1) (v0 := a0) (v1 := a1) (v2 := a2) h1
  have k2 := row_coprime (u := u2) (v0 := b0) (v1 := b1) (v2 := b2) h2
  have x0 := row_cross u0 v0 v1 v2
  have x1 := row_cross u1 a0 a1 a2
  have x2 := row_cross u2 b0 b1 b2
  have d1 := row_dvd u1 a0 a1 a2
  have d2 := row_dvd u2 b0 b1 b2
  rw [← ep, ← ea0, ← ea1, ← ea2] at k0 x0
  rw [← eq, ← eb0, ← eb1, ← eb2] at k1 x1
  rw [← er, ← ec0, ← ec1, ← ec2] at k2 x2
  rw [← eb0, ← eb1, ← eb2] at d1
  rw [← ec0, ← ec1, ← ec2] at d2
  have m1 : Nat.Coprime q (c0 * c1 * c2) := co3 ⟨Nat.Coprime.coprime_dvd_right d2.1 k1.1, Nat.Coprime.coprime_dvd_right d2.2.1 k1.2.1, Nat.Coprime.coprime_dvd_right d2.2.2 k1.2.2⟩
  have m0 : Nat.Coprime p (c0 * c1 * c2) := co3 ⟨Nat.Coprime.coprime_dvd_right (Nat.dvd_trans d2.1 d1.1) k0.1, Nat.Coprime.coprime_dvd_right (Nat.dvd_trans d2.2.1 d1.2.1) k0.2.1, Nat.Coprime.coprime_dvd_right (Nat.dvd_trans d2.2.2 d1.2.2) k0.2.2⟩
  refine ⟨Nat.Coprime.mul_left (Nat.Coprime.mul_left m0 m1) (co3 k2), ?_⟩
  calc p * q * r * (v0 * v1 * v2) = q * r * (p * (v0 * v1 * v2)) := by ac_rfl
    _ = r * u0 * (q * (a0 * a1 * a2)) := by rw [← x0]; ac_rfl
    _ = u0 * u1 * (r * (b0 * b1 * b2)) := by rw [← x1]; ac_rfl
    _ = c0 * c1 * c2 * (u0 * u1 * u2) := by rw [← x2]; ac_rfl
/-- the other road: two fractions, shortened crosswise -/
theorem two_low {o u a b : Nat} (ho : 0 < o) (hu : 0 < u) (ha : 0 < a) : Low (cu (cu o u) (cv a b) * cv (cv o u) (cu a b)) (cu (cv o u) (cu a b) * cv (cu o u) (cv a b)) (o * a) (u * b) := by
  have k1 := c_coprime (u := o) (v := u) ho
  have k2 := c_coprime (u := a) (v := b) ha
  have k3 := c_coprime (u := cu o u) (v := cv a b) (cu_pos ho)
  have k4 := c_coprime (u := cv o u) (v := cu a b) (cv_pos hu)
  refine ⟨Nat.Coprime.mul_left (Nat.Coprime.mul_right ?_ k3) (Nat.Coprime.mul_right k4.symm ?_), ?_⟩
  · exact Nat.Coprime.coprime_dvd_left (cu_dvd _ _) (Nat.Coprime.coprime_dvd_right (cu_dvd _ _) k1)
  · exact Nat.Coprime.coprime_dvd_left (cv_dvd _ _) (Nat.Coprime.coprime_dvd_right (cv_dvd _ _) k2)
  · have x1 := c_cross o u
    have x2 := c_cross a b
    have x3 := c_cross (cu o u) (cv a b)
    have x4 := c_cross (cv o u) (cu a b)
    generalize cu (cu o u) (cv a b) = p at *
    generalize cv (cu o u) (cv a b) = q at *
    generalize cu (cv o u) (cu a b) = r at *
    generalize cv (cv o u) (cu a b) = s at *
    have g1 := cu_mul o u
    have g2 := cv_mul o u
    have g3 := cu_mul a b
    have g4 := cv_mul a b
    calc p * s * (u * b) = p * s * ((Nat.gcd o u * cv o u) * (Nat.gcd a b * cv a b)) := by rw [g2, g4]
      _ = (p * cv a b) * (cv o u * s) * (Nat.gcd o u * Nat.gcd a b) := by ac_rfl
      _ = (cu o u * q) * (r * cu a b) * (Nat.gcd o u * Nat.gcd a b) := by rw [x3, x4]
      _ = r * q * ((Nat.gcd o u * cu o u) * (Nat.gcd a b * cu a b)) := by ac_rfl
      _ = r * q * (o * a) := by rw [g1, g3]
theorem low_cancel {x y n d g : Nat} (hg : 0 < g) (h : Low x y (n * g) (d * g)) : Low x y n d := by
  refine ⟨h.1, Nat.eq_of_mul_eq_mul_right hg ?_⟩
  calc x * d * g = x * (d * g) := by ac_rfl
    _ = y * (n * g) := h.2
    _ = y * n * g := by ac_rfl
/-- two ratios are one if they are so crosswise -/
theorem red_one {a b c d : Int} (hb : 0 < b) (hd : 0 < d) (h1 : Int.gcd a b = 1) (h2 : Int.gcd c d = 1) (h : a * d = c * b) : a = c ∧ b = d := by
  have k1 : Nat.Coprime b.natAbs a.natAbs := by have := h1; rw [gcd_def] at this; exact Nat.Coprime.symm this
  have k2 : Nat.Coprime d.natAbs c.natAbs := by have := h2; rw [gcd_def] at this; exact Nat.Coprime.symm this
  have hn : a.natAbs * d.natAbs = c.natAbs * b.natAbs := by rw [← Int.natAbs_mul, ← Int.natAbs_mul, h]
  have d1 : b.natAbs ∣ d.natAbs := k1.dvd_of_dvd_mul_left ⟨c.natAbs, by rw [hn, Nat.mul_comm]⟩
  have d2 : d.natAbs ∣ b.natAbs := k2.dvd_of_dvd_mul_left ⟨a.natAbs, by rw [← hn, Nat.mul_comm]⟩
  have e : b = d := by have := Nat.dvd_antisymm d1 d2; omega
  subst e
  exact ⟨Int.eq_of_mul_eq_mul_right (by omega) h, rfl⟩
theorem mulb {a b : Int} (h0 : -1000000000 ≤ a) (h1 : a ≤ 1000000000) (h2 : 0 ≤ b) (h3 : b ≤ 1000000000) : -1000000000000000000 ≤ a * b ∧ a * b ≤ 1000000000000000000 := by
  have p1 := Int.mul_le_mul_of_nonneg_right h1 h2
  have p2 := Int.mul_le_mul_of_nonneg_right h0 h2
  have p3 := Int.mul_le_mul_of_nonneg_left h3 (show (0 : Int) ≤ 1000000000 by omega)
  omega
theorem sign_val (x : Int) : spec_l1Sign.f x = some (if x > 0 then 1 else if x < 0 then -1 else 0) := by
  unfold spec_l1Sign.f
  (repeat' split) <;> rfl
theorem can_u {u v : Nat} (h : u ≤ 4000000000000000000) : wrap64 (Int.tdiv (u : Int) ((Nat.gcd u v : Nat) : Int)) = ((cu u v : Nat) : Int) := by
  have e : Int.tdiv (u : Int) ((Nat.gcd u v : Nat) : Int) = ((cu u v : Nat) : Int) := rfl
  have := cu_le u v
  rw [e, w64 (by omega) (by omega)]
theorem can_v {u v : Nat} (h : v ≤ 4000000000000000000) : wrap64 (Int.tdiv (v : Int) ((Nat.gcd u v : Nat) : Int)) = ((cv u v : Nat) : Int) := by
  have e : Int.tdiv (v : Int) ((Nat.gcd u v : Nat) : Int) = ((cv u v : Nat) : Int) := rfl
  have := cv_le u v
  rw [e, w64 (by omega) (by omega)]
theorem rd_set {L : List Int} {i : Int} (h0 : 0 ≤ i) (h1 : i < (L.length : Int)) (x : Int) : rd (L.set i.toNat x) i = x := by
  unfold rd
  rw [getD_eq 0 (by rw [List.length_set]; omega), List.getElem_set_self]
theorem in_ev {L V : List Int} {i j : Int} {u v : Nat} (hi0 : 0 ≤ i) (hi1 : i < (L.length : Int)) (hj0 : 0 ≤ j) (hj1 : j < (V.length : Int)) (hV : (V.length : Int) = 3) (hu : rd L i = (u : Int)) (hv : rd V j = (v : Int)) (u0 : 0 < u) (u1 : u ≤ 4000000000000000000) (v1 : v ≤ 4000000000000000000) {r : Int × Int × Bool}
    (next : Ev (fun k => spec_saCross.l1 k (L.set i.toNat ((cu u v : Nat) : Int)) (V.set j.toNat ((cv u v : Nat) : Int)) i 3 i 3 (j + 1)) r) : Ev (fun k => spec_saCross.l1 k L V i 3 i 3 j) r := by
  refine Ev.step (f := fun k => (spec_veCommon.f k (u : Int) (v : Int)).bind fun t130 => if t130 = 0 then none else spec_saCross.l1 k (L.set i.toNat (wrap64 (Int.tdiv (u : Int) t130))) (V.set j.toNat (wrap64 (Int.tdiv (v : Int) t130))) i 3 i 3 (wrap64 (j + 1))) (fun k => ?_) ?_
  · simp only [spec_saCross.l1]
    rw [if_pos (show j < 3 by omega), if_pos hi0, if_pos hi1, if_pos hj0, if_pos hj1, hu, hv]
  · refine Ev.bind (g := fun k => spec_veCommon.f k (u : Int) (v : Int)) (common_ev (l0 := spec_veCommon.l0) (fun _ _ _ => rfl) (by omega) (by omega)) ?_
    have hg : 0 < Nat.gcd u v := Nat.gcd_pos_of_pos_left v u0
    show Ev (fun k => if ((Nat.gcd u v : Nat) : Int) = 0 then none else spec_saCross.l1 k (L.set i.toNat (wrap64 (Int.tdiv (u : Int) ((Nat.gcd u v : Nat) : Int)))) (V.set j.toNat (wrap64 (Int.tdiv (v : Int) ((Nat.gcd u v : Nat) : Int)))) i 3 i 3 (wrap64 (j + 1))) r
    refine Ev.ifF (by omega) ?_
    rw [can_u u1, can_v v1, w64 (x := j + 1) (by omega) (by omega)]
    exact next
theorem row_ev {L : List Int} {i : Int} {u v0 v1 v2 : Nat} (hi0 : 0 ≤ i) (hi1 : i < 3) (hL : (L.length : Int) = 3) (hu : rd L i = (u : Int)) (u0 : 0 < u) (u1 : u ≤ 4000000000000000000) (b0 : v0 ≤ 4000000000000000000) (b1 : v1 ≤ 4000000000000000000) (b2 : v2 ≤ 4000000000000000000) {r : Int × Int × Bool}
    (next : Ev (fun k => spec_saCross.l0 k (L.set i.toNat ((rowU u v0 v1 v2 : Nat) : Int)) [((rowA u v0 : Nat) : Int), ((rowB u v0 v1 : Nat) : Int), ((rowC u v0 v1 v2 : Nat) : Int)] 3 (i + 1)) r) : Ev (fun k => spec_saCross.l0 k L [(v0 : Int), (v1 : Int), (v2 : Int)] 3 i) r := by
  refine Ev.step (f := fun k => spec_saCross.l1 k L [(v0 : Int), (v1 : Int), (v2 : Int)] i 3 i 3 0) (fun k => ?_) ?_
  · simp only [spec_saCross.l0]
    rw [if_pos hi1]
    rfl
  refine in_ev (u := u) (v := v0) hi0 (by omega) (by omega) (by simp) rfl hu rfl u0 u1 b0 ?_
  show Ev (fun k => spec_saCross.l1 k (L.set i.toNat ((cu u v0 : Nat) : Int)) [((cv u v0 : Nat) : Int), (v1 : Int), (v2 : Int)] i 3 i 3 1) r
  have l1 := cu_le u v0
  have l2 := cu_le (cu u v0) v1
  refine in_ev (u := cu u v0) (v := v1) hi0 (by rw [List.length_set]; omega) (by omega) (by simp) rfl (rd_set hi0 (by omega) _) rfl (cu_pos u0) (by omega) b1 ?_
  rw [List.set_set]
  show Ev (fun k => spec_saCross.l1 k (L.set i.toNat ((cu (cu u v0) v1 : Nat) : Int)) [((cv u v0 : Nat) : Int), ((cv (cu u v0) v1 : Nat) : Int), (v2 : Int)] i 3 i 3 2) r
  refine in_ev (u := cu (cu u v0) v1) (v := v2) hi0 (by rw [List.length_set]; omega) (by omega) (by simp) rfl (rd_set hi0 (by omega) _) rfl (cu_pos (cu_pos u0)) (by omega) b2 ?_
  rw [List.set_set]
  show Ev (fun k => spec_saCross.l1 k (L.set i.toNat ((rowU u v0 v1 v2 : Nat) : Int)) [((rowA u v0 : Nat) : Int), ((rowB u v0 v1 : Nat) : Int), ((rowC u v0 v1 v2 : Nat) : Int)] i 3 i 3 3) r
  refine Ev.step (f := fun k => spec_saCross.l0 k (L.set i.toNat ((rowU u v0 v1 v2 : Nat) : Int)) [((rowA u v0 : Nat) : Int), ((rowB u v0 v1 : Nat) : Int), ((rowC u v0 v1 v2 : Nat) : Int)] 3 (i + 1)) (fun k => ?_) next
  simp only [spec_saCross.l1]
  rw [if_neg (by omega), w64 (x := i + 1) (by omega) (by omega)]
/-- a product, if it is no greater than MaxNumber -/
def prodR (x : Nat) : Int × Bool := if x ≤ 1000000000 then ((x : Int), true) else (0, false)
theorem pr_step {L : List Int} {o x : Nat} {j : Int} (k : Nat) (ho : 0 < o) (hj0 : 0 ≤ j) (hj1 : j < 3) (hL : (L.length : Int) = 3) (hx : rd L j = (x : Int)) :
    spec_saProduct.l0 (k + 1) (o : Int) L 3 j = if o * x ≤ 1000000000 then spec_saProduct.l0 k ((o * x : Nat) : Int) L 3 (j + 1) else some (0, false) := by
  simp only [spec_saProduct.l0]
  have e : Int.tdiv (1000000000 : Int) (o : Int) = ((1000000000 / o : Nat) : Int) := rfl
  have le : 1000000000 / o ≤ 1000000000 := Nat.div_le_self _ _
  have iff : 1000000000 / o < x ↔ 1000000000 < x * o := Nat.div_lt_iff_lt_mul ho
  rw [Nat.mul_comm x o] at iff
  rw [if_pos hj1, if_pos hj0, if_pos (by omega), if_neg (by omega), hx, e]
  generalize 1000000000 / o = q at le iff
  rw [w64 (x := (q : Int)) (by omega) (by omega), w64 (x := j + 1) (by omega) (by omega)]
  by_cases h : o * x ≤ 1000000000
  · rw [if_neg (by omega), if_pos h]
    rw [show (o : Int) * (x : Int) = ((o * x : Nat) : Int) by simp, w64 (by omega) (by omega)]
  · rw [if_pos (by omega), if_neg h]
theorem prod_ev {a b c : Nat} (ha : 0 < a) (hb : 0 < b) (hc : 0 < c) : Ev (fun k => spec_saProduct.f k [(a : Int), (b : Int), (c : Int)]) (prodR (a * b * c)) := by
  refine Ev.at_ (K := 4) (fun k hk => ?_)
  obtain ⟨k, rfl⟩ : ∃ q, k = q + 4 := ⟨k - 4, by omega⟩
  show spec_saProduct.l0 (k + 3 + 1) ((1 : Nat) : Int) [(a : Int), (b : Int), (c : Int)] 3 0 = _
  unfold prodR
  have m1 : a ≤ a * b := Nat.le_mul_of_pos_right a hb
  have m2 : a * b ≤ a * b * c := Nat.le_mul_of_pos_right (a * b) hc
  have m3 : 0 < a * b := Nat.mul_pos ha hb
  rw [pr_step (k + 3) (by omega) (by omega) (by omega) rfl rfl, Nat.one_mul]
  by_cases h1 : a ≤ 1000000000
  · rw [if_pos h1]
    show spec_saProduct.l0 (k + 2 + 1) (a : Int) [(a : Int), (b : Int), (c : Int)] 3 1 = _
    rw [pr_step (k + 2) ha (by omega) (by omega) rfl rfl]
    by_cases h2 : a * b ≤ 1000000000
    · rw [if_pos h2]
      show spec_saProduct.l0 (k + 1 + 1) ((a * b : Nat) : Int) [(a : Int), (b : Int), (c : Int)] 3 2 = _
      rw [pr_step (k + 1) m3 (by omega) (by omega) rfl rfl]
      by_cases h3 : a * b * c ≤ 1000000000
      · rw [if_pos h3, if_pos h3]
        show spec_saProduct.l0 (k + 1) ((a * b * c : Nat) : Int) [(a : Int), (b : Int), (c : Int)] 3 3 = _
        simp only [spec_saProduct.l0]
        rw [if_neg (by omega)]
      · rw [if_neg h3, if_neg h3]
    · rw [if_neg h2, if_neg (by omega)]
  · rw [if_neg h1, if_neg (by omega)]
theorem cross_ev {s t : Int} {o u a g q : Nat} (ho : 0 < o) (ho1 : o ≤ 4000000000000000000) (hu : 0 < u) (hu1 : u ≤ 4000000000000000000) (ha : 0 < a) (ha1 : a ≤ 4000000000000000000) (hg : 0 < g) (hg1 : g ≤ 4000000000000000000) (hq : 0 < q) (hq1 : q ≤ 4000000000000000000) :
    ∃ x y : Nat, 0 < x ∧ Low x y (o * a * g) (u * g * q) ∧ Ev (fun k => spec_saCross.f k s (u : Int) (a : Int) (g : Int) t (o : Int) (g : Int) (q : Int)) ((prodR x).1, (prodR y).1, (prodR x).2 && (prodR y).2) := by
  have w0 := row_le o u g q
  have p0 := row_pos ho hu hg hq
  have w1 := row_le a (rowA o u) (rowB o u g) (rowC o u g q)
  have p1 := row_pos ha p0.2.1 p0.2.2.1 p0.2.2.2
  have w2 := row_le g (rowA a (rowA o u)) (rowB a (rowA o u) (rowB o u g)) (rowC a (rowA o u) (rowB o u g) (rowC o u g q))
  have p2 := row_pos hg p1.2.1 p1.2.2.1 p1.2.2.2
  have hlow := three_low (v0 := u) (v1 := g) (v2 := q) ho ha hg rfl rfl rfl rfl rfl rfl rfl rfl rfl rfl rfl rfl
  refine ⟨_, _, Nat.mul_pos (Nat.mul_pos p0.1 p1.1) p2.1, hlow, ?_⟩
  unfold spec_saCross.f
  refine Ev.now_ ?_
  show Ev (fun k => spec_saCross.l0 k [(o : Int), (a : Int), (g : Int)] [(u : Int), (g : Int), (q : Int)] 3 0) _
  refine row_ev (u := o) (by omega) (by omega) rfl rfl ho ho1 hu1 hg1 hq1 ?_
  show Ev (fun k => spec_saCross.l0 k [((rowU o u g q : Nat) : Int), (a : Int), (g : Int)] [((rowA o u : Nat) : Int), ((rowB o u g : Nat) : Int), ((rowC o u g q : Nat) : Int)] 3 1) _
  refine row_ev (u := a) (by omega) (by omega) rfl rfl ha ha1 (by omega) (by omega) (by omega) ?_
  show Ev (fun k => spec_saCross.l0 k [((rowU o u g q : Nat) : Int), ((rowU a (rowA o u) (rowB o u g) (rowC o u g q) : Nat) : Int), (g : Int)] [((rowA a (rowA o u) : Nat) : Int), ((rowB a (rowA o u) (rowB o u g) : Nat) : Int), ((rowC a (rowA o u) (rowB o u g) (rowC o u g q) : Nat) : Int)] 3 2) _
  refine row_ev (u := g) (by omega) (by omega) rfl rfl hg hg1 (by omega) (by omega) (by omega) ?_
  refine Ev.step (f := fun k => (spec_saProduct.f k [((rowU o u g q : Nat) : Int), ((rowU a (rowA o u) (rowB o u g) (rowC o u g q) : Nat) : Int), ((rowU g (rowA a (rowA o u)) (rowB a (rowA o u) (rowB o u g)) (rowC a (rowA o u) (rowB o u g) (rowC o u g q)) : Nat) : Int)]).bind fun bt124 => ((spec_saProduct.f k [((rowA g (rowA a (rowA o u)) : Nat) : Int), ((rowB g (rowA a (rowA o u)) (rowB a (rowA o u) (rowB o u g)) : Nat) : Int), ((rowC g (rowA a (rowA o u)) (rowB a (rowA o u) (rowB o u g)) (rowC a (rowA o u) (rowB o u g) (rowC o u g q)) : Nat) : Int)]).bind fun bt126 => (if bt124.2 = true then (some (bt124.1, bt126.1, bt126.2)) else (some (bt124.1, bt126.1, false))))) (fun k => ?_) ?_
  · simp only [spec_saCross.l0]
    rw [if_neg (by omega)]
    rfl
  refine Ev.bind (prod_ev p0.1 p1.1 p2.1) ?_
  refine Ev.bind (prod_ev p2.2.1 p2.2.2.1 p2.2.2.2) ?_
  try dsimp only
  cases h : (prodR (rowU o u g q * rowU a (rowA o u) (rowB o u g) (rowC o u g q) * rowU g (rowA a (rowA o u)) (rowB a (rowA o u) (rowB o u g)) (rowC a (rowA o u) (rowB o u g) (rowC o u g q)))).2 with
  | true => exact Ev.ifT rfl (by rw [Bool.true_and]; exact Ev.now _)
  | false => exact Ev.ifF (by decide) (by rw [Bool.false_and]; exact Ev.now _)
theorem product_val {a b : Nat} (ha : 0 < a) (hb : 0 < b) : impl_product.f (a : Int) (b : Int) = some (prodR (a * b)) := by
  unfold impl_product.f prodR
  have m1 : a ≤ a * b := Nat.le_mul_of_pos_right a hb
  have m2 : b ≤ a * b := Nat.le_mul_of_pos_left b ha
  by_cases h1 : (a : Int) > 1000000000
  · rw [if_pos h1, if_neg (by omega)]
  · rw [if_neg h1]
    by_cases h2 : (b : Int) > 1000000000
    · rw [if_pos h2, if_neg (by omega)]
    · rw [if_neg h2]
      have := mulb (a := (a : Int)) (b := (b : Int)) (by omega) (by omega) (by omega) (by omega)
      rw [w64 (by omega) (by omega), show (a : Int) * (b : Int) = ((a * b : Nat) : Int) by simp]
      by_cases h3 : a * b ≤ 1000000000
      · rw [if_neg (by omega), if_pos h3]
      · rw [if_pos (by omega), if_neg h3]
theorem mx_abs {x : Int} (h0 : -2000000000000000000 ≤ x) (h1 : x ≤ 2000000000000000000) : mx x (wrap64 (-x)) = (x.natAbs : Int) := by
  rw [w64 (x := -x) (by omega) (by omega)]
  unfold mx
  split <;> omega
theorem abs_nat {x : Int} (h0 : -2000000000000000000 ≤ x) (h1 : x ≤ 2000000000000000000) : spec_l1Abs.f x = some (x.natAbs : Int) := by
  rw [abs_val, w64 (x := -x) (by omega) (by omega)]
  split <;> congr 1 <;> omega
theorem gap_val {a b c d : Int} (ha : -1000000000 ≤ a ∧ a ≤ 1000000000 ∧ 1 ≤ b ∧ b ≤ 1000000000) (hc : -1000000000 ≤ c ∧ c ≤ 1000000000 ∧ 1 ≤ d ∧ d ≤ 1000000000) :
    spec_saGap.f a b c d = some (if a * d - c * b > 0 then 1 else if a * d - c * b < 0 then -1 else 0, ((a * d - c * b).natAbs : Int), b, d) := by
  have p1 := mulb (a := a) (b := d) (by omega) (by omega) (by omega) (by omega)
  have p2 := mulb (a := c) (b := b) (by omega) (by omega) (by omega) (by omega)
  unfold spec_saGap.f
  rw [w64 (x := a * d) (by omega) (by omega), w64 (x := c * b) (by omega) (by omega), w64 (x := a * d - c * b) (by omega) (by omega), sign_val, Option.bind_some, abs_nat (by omega) (by omega), Option.bind_some]
theorem gcd_nat (u v : Nat) (hu : u ≤ 4000000000000000000) (hv : v ≤ 4000000000000000000) : Ev (fun k => impl_gcd.f k (u : Int) (v : Int)) ((Nat.gcd u v : Nat) : Int) :=
  gcd_ev (l0 := impl_gcd.l0) (fun _ _ _ => rfl) (by omega) (by omega) (by omega) (by omega)
def answer (x y : Nat) : Int × Int × Bool := if x ≤ 1000000000 ∧ y ≤ 1000000000 then ((x : Int), (y : Int), true) else (0, 0, false)
theorem answer_spec (x y : Nat) : (if ((prodR x).2 && (prodR y).2) = true then some ((prodR x).1, (prodR y).1, true) else some (0, 0, false)) = some (answer x y) := by
  unfold prodR answer
  by_cases h1 : x ≤ 1000000000
  · by_cases h2 : y ≤ 1000000000
    · simp [h1, h2]
    · simp [h1, h2]
  · simp [h1]
theorem answer_impl (x y : Nat) : (if (prodR x).2 = true then (if (prodR y).2 = true then some ((prodR x).1, (prodR y).1, true) else some (0, 0, false)) else some (0, 0, false)) = some (answer x y) := by
  unfold prodR answer
  by_cases h1 : x ≤ 1000000000
  · by_cases h2 : y ≤ 1000000000
    · simp [h1, h2]
    · simp [h1, h2]
  · simp [h1]
theorem blend_main {O U B D G : Nat} (hO : 0 < O) (hO1 : O ≤ 4000000000000000000) (hU : 0 < U) (hU1 : U ≤ 4000000000000000000) (hB : 0 < B) (hB1 : B ≤ 1000000000) (hD : 0 < D) (hD1 : D ≤ 1000000000) (hG : 0 < G) (hG1 : G ≤ 1000000000) (s t : Int) :
    ∃ R, Ev (fun k => (spec_saCross.f k s (U : Int) (B : Int) (G : Int) t (O : Int) (G : Int) (D : Int)).bind fun bt151 => (if bt151.2.2 = true then (some (bt151.1, bt151.2.1, true)) else (some (0, 0, false)))) R ∧
      Ev (fun k => (impl_gcd.f k (O : Int) (U : Int)).bind fun t164 => ((impl_gcd.f k (B : Int) (D : Int)).bind fun t165 => (if t164 = 0 then (none) else (if t165 = 0 then (none) else ((impl_gcd.f k (wrap64 (Int.tdiv (O : Int) t164)) (wrap64 (Int.tdiv (D : Int) t165))).bind fun t166 => ((impl_gcd.f k (wrap64 (Int.tdiv (U : Int) t164)) (wrap64 (Int.tdiv (B : Int) t165))).bind fun t167 => (if t166 = 0 then (none) else (if t167 = 0 then (none) else ((impl_product.f (wrap64 (Int.tdiv (wrap64 (Int.tdiv (O : Int) t164)) t166)) (wrap64 (Int.tdiv (wrap64 (Int.tdiv (B : Int) t165)) t167))).bind fun bt168 => ((impl_product.f (wrap64 (Int.tdiv (wrap64 (Int.tdiv (U : Int) t164)) t167)) (wrap64 (Int.tdiv (wrap64 (Int.tdiv (D : Int) t165)) t166))).bind fun bt170 => (if bt168.2 = true then (if bt170.2 = true then (some (bt168.1, bt170.1, true)) else (some (0, 0, false))) else (some (0, 0, false))))))))))))) R := by
  obtain ⟨x, y, hx, hlow, hev⟩ := cross_ev (s := s) (t := t) hO hO1 hU hU1 hB (by omega) hG (by omega) hD (by omega)
  have l1 : Low x y (O * B) (U * D) := low_cancel hG (by rw [show U * D * G = U * G * D by ac_rfl]; exact hlow)
  have l2 := two_low (b := D) hO hU hB
  obtain ⟨ex, ey⟩ := low_one (Nat.mul_pos hO hB) (Nat.mul_pos hU hD) hx l1 l2
  refine ⟨answer x y, ?_, ?_⟩
  · refine Ev.bind hev ?_
    exact Ev.congr (fun k => answer_spec x y) (Ev.now _)
  · have q1 := cu_le O U
    have q2 := cv_le O U
    have q3 := cu_le B D
    have q4 := cv_le B D
    have g1 : 0 < Nat.gcd O U := Nat.gcd_pos_of_pos_left U hO
    have g2 : 0 < Nat.gcd B D := Nat.gcd_pos_of_pos_left D hB
    have g3 : 0 < Nat.gcd (cu O U) (cv B D) := Nat.gcd_pos_of_pos_left _ (cu_pos hO)
    have g4 : 0 < Nat.gcd (cv O U) (cu B D) := Nat.gcd_pos_of_pos_left _ (cv_pos hU)
    refine Ev.bind (gcd_nat O U hO1 hU1) ?_
    refine Ev.bind (gcd_nat B D (by omega) (by omega)) ?_
    refine Ev.ifF (by omega) (Ev.ifF (by omega) ?_)
    rw [can_u hO1, can_v hU1, can_u (u := B) (by omega), can_v (v := D) (by omega)]
    refine Ev.bind (gcd_nat (cu O U) (cv B D) (by omega) (by omega)) ?_
    refine Ev.bind (gcd_nat (cv O U) (cu B D) (by omega) (by omega)) ?_
    refine Ev.ifF (by omega) (Ev.ifF (by omega) ?_)
    rw [can_u (u := cu O U) (by omega), can_v (v := cv B D) (by omega), can_u (u := cv O U) (by omega), can_v (v := cu B D) (by omega)]
    rw [product_val (cu_pos (cu_pos hO)) (cv_pos (cu_pos hB)), product_val (cu_pos (cv_pos hU)) (cv_pos (cv_pos hD)), ← ex, ← ey]
    refine Ev.now_ (Ev.now_ ?_)
    exact Ev.congr (fun k => answer_impl x y) (Ev.now _)
theorem blend_both (a b c d e g : Int) : ∃ R, Ev (fun k => spec_BlendAmounts.f k a b c d e g) R ∧ Ev (fun k => impl_BlendAmounts.f k a b c d e g) R := by
  by_cases h1 : isR a b = true
  case neg =>
    refine ⟨(0, 0, false), ?_, ?_⟩
    · unfold spec_BlendAmounts.f
      refine Ev.bind (saGood_ev a b) (Ev.ifF h1 ?_)
      exact Ev.step (f := fun _ => some (0, 0, false)) (fun k => by simp only [spec_BlendAmounts.j0, if_true]) (Ev.now _)
    · unfold impl_BlendAmounts.f
      refine Ev.bind (isR_ev a b) (Ev.ifF h1 ?_)
      exact Ev.step (f := fun _ => some (0, 0, false)) (fun k => by simp only [impl_BlendAmounts.j0, if_true]) (Ev.now _)
  by_cases h2 : isR c d = true
  case neg =>
    refine ⟨(0, 0, false), ?_, ?_⟩
    · unfold spec_BlendAmounts.f
      refine Ev.bind (saGood_ev a b) (Ev.ifT h1 (Ev.bind (saGood_ev c d) (Ev.ifF h2 ?_)))
      exact Ev.step (f := fun _ => some (0, 0, false)) (fun k => by simp only [spec_BlendAmounts.j0, if_true]) (Ev.now _)
    · unfold impl_BlendAmounts.f
      refine Ev.bind (isR_ev a b) (Ev.ifT h1 (Ev.bind (isR_ev c d) (Ev.ifF h2 ?_)))
      exact Ev.step (f := fun _ => some (0, 0, false)) (fun k => by simp only [impl_BlendAmounts.j0, if_true]) (Ev.now _)
  by_cases h3 : isR e g = true
  case neg =>
    have h3' : isR e g = false := by simpa using h3
    refine ⟨(0, 0, false), ?_, ?_⟩
    · unfold spec_BlendAmounts.f
      refine Ev.bind (saGood_ev a b) (Ev.ifT h1 (Ev.bind (saGood_ev c d) (Ev.ifT h2 (Ev.bind (saGood_ev e g) ?_))))
      exact Ev.step (f := fun _ => some (0, 0, false)) (fun k => by simp only [h3', Bool.not_false, spec_BlendAmounts.j0, if_true]) (Ev.now _)
    · unfold impl_BlendAmounts.f
      refine Ev.bind (isR_ev a b) (Ev.ifT h1 (Ev.bind (isR_ev c d) (Ev.ifT h2 (Ev.bind (isR_ev e g) ?_))))
      exact Ev.step (f := fun _ => some (0, 0, false)) (fun k => by simp only [h3', Bool.not_false, impl_BlendAmounts.j0, if_true]) (Ev.now _)
  have r1 := of_decide_eq_true h1
  have r2 := of_decide_eq_true h2
  have r3 := of_decide_eq_true h3
  -- what the second steps do
  suffices key : ∃ R, Ev (fun k => spec_BlendAmounts.j0 k false a b c d e g) R ∧ Ev (fun k => impl_BlendAmounts.j0 k false a b c d e g) R by
    obtain ⟨R, k1, k2⟩ := key
    refine ⟨R, ?_, ?_⟩
    · unfold spec_BlendAmounts.f
      refine Ev.bind (saGood_ev a b) (Ev.ifT h1 (Ev.bind (saGood_ev c d) (Ev.ifT h2 (Ev.bind (saGood_ev e g) ?_))))
      rw [h3]
      exact k1
    · unfold impl_BlendAmounts.f
      refine Ev.bind (isR_ev a b) (Ev.ifT h1 (Ev.bind (isR_ev c d) (Ev.ifT h2 (Ev.bind (isR_ev e g) ?_))))
      rw [h3]
      exact k2
  have p1 := mulb (a := a) (b := g) (by omega) (by omega) (by omega) (by omega)
  have p2 := mulb (a := e) (b := b) (by omega) (by omega) (by omega) (by omega)
  have p3 := mulb (a := e) (b := d) (by omega) (by omega) (by omega) (by omega)
  have p4 := mulb (a := c) (b := g) (by omega) (by omega) (by omega) (by omega)
  have i1 : ∀ k, impl_BlendAmounts.j0 (k + 1) false a b c d e g = (if a * g - e * b = 0 then (some (1, 0, true)) else (if e * d - c * g = 0 then (some (0, 1, true)) else (if ((decide (e * d - c * g < 0)) != (decide (a * g - e * b < 0))) = true then (some (0, 0, false)) else ((impl_gcd.f k ((e * d - c * g).natAbs : Int) ((a * g - e * b).natAbs : Int)).bind fun t164 => ((impl_gcd.f k b d).bind fun t165 => (if t164 = 0 then (none) else (if t165 = 0 then (none) else ((impl_gcd.f k (wrap64 (Int.tdiv ((e * d - c * g).natAbs : Int) t164)) (wrap64 (Int.tdiv d t165))).bind fun t166 => ((impl_gcd.f k (wrap64 (Int.tdiv ((a * g - e * b).natAbs : Int) t164)) (wrap64 (Int.tdiv b t165))).bind fun t167 => (if t166 = 0 then (none) else (if t167 = 0 then (none) else ((impl_product.f (wrap64 (Int.tdiv (wrap64 (Int.tdiv ((e * d - c * g).natAbs : Int) t164)) t166)) (wrap64 (Int.tdiv (wrap64 (Int.tdiv b t165)) t167))).bind fun bt168 => ((impl_product.f (wrap64 (Int.tdiv (wrap64 (Int.tdiv ((a * g - e * b).natAbs : Int) t164)) t167)) (wrap64 (Int.tdiv (wrap64 (Int.tdiv d t165)) t166))).bind fun bt170 => (if bt168.2 = true then (if bt170.2 = true then (some (bt168.1, bt170.1, true)) else (some (0, 0, false))) else (some (0, 0, false)))))))))))))))) := by
    intro k
    simp only [impl_BlendAmounts.j0]
    rw [if_neg (by decide), w64 (x := a * g) (by omega) (by omega), w64 (x := e * b) (by omega) (by omega), w64 (x := e * d) (by omega) (by omega), w64 (x := c * g) (by omega) (by omega), w64 (x := a * g - e * b) (by omega) (by omega), w64 (x := e * d - c * g) (by omega) (by omega), mx_abs (x := e * d - c * g) (by omega) (by omega), mx_abs (x := a * g - e * b) (by omega) (by omega)]
  by_cases hu : a * g - e * b = 0
  · have := red_one (a := a) (b := b) (c := e) (d := g) (by omega) (by omega) (by omega) (by omega) (by omega)
    refine ⟨(1, 0, true), ?_, ?_⟩
    · refine Ev.step (f := fun _ => some (1, 0, true)) (fun k => ?_) (Ev.now _)
      simp only [spec_BlendAmounts.j0]
      rw [if_neg (by decide), if_pos (by simp [this])]
    · exact Ev.step (f := fun _ => some (1, 0, true)) (fun k => by rw [i1, if_pos hu]) (Ev.now _)
  have n1 : ¬ ((a == e && (b == g)) = true) := by
    intro h
    simp only [Bool.and_eq_true, beq_iff_eq] at h
    obtain ⟨rfl, rfl⟩ := h
    exact hu (by omega)
  by_cases ho : e * d - c * g = 0
  · have := red_one (a := c) (b := d) (c := e) (d := g) (by omega) (by omega) (by omega) (by omega) (by omega)
    refine ⟨(0, 1, true), ?_, ?_⟩
    · refine Ev.step (f := fun _ => some (0, 1, true)) (fun k => ?_) (Ev.now _)
      simp only [spec_BlendAmounts.j0]
      rw [if_neg (by decide), if_neg n1, if_pos (by simp [this])]
    · exact Ev.step (f := fun _ => some (0, 1, true)) (fun k => by rw [i1, if_neg hu, if_pos ho]) (Ev.now _)
  have n2 : ¬ ((c == e && (d == g)) = true) := by
    intro h
    simp only [Bool.and_eq_true, beq_iff_eq] at h
    obtain ⟨rfl, rfl⟩ := h
    exact ho (by omega)
  have s1 : ∀ k, spec_BlendAmounts.j0 (k + 1) false a b c d e g = (if wrap64 ((if a * g - e * b > 0 then 1 else if a * g - e * b < 0 then -1 else 0) * (if e * d - c * g > 0 then 1 else if e * d - c * g < 0 then -1 else 0)) ≤ 0 then (some (0, 0, false)) else ((spec_saCross.f k (if a * g - e * b > 0 then 1 else if a * g - e * b < 0 then -1 else 0) ((a * g - e * b).natAbs : Int) b g (if e * d - c * g > 0 then 1 else if e * d - c * g < 0 then -1 else 0) ((e * d - c * g).natAbs : Int) g d).bind fun bt151 => (if bt151.2.2 = true then (some (bt151.1, bt151.2.1, true)) else (some (0, 0, false))))) := by
    intro k
    simp only [spec_BlendAmounts.j0]
    rw [if_neg (by decide), if_neg n1, if_neg n2, gap_val (by omega) (by omega), Option.bind_some, gap_val (by omega) (by omega), Option.bind_some]
  have hsg : wrap64 ((if a * g - e * b > 0 then 1 else if a * g - e * b < 0 then -1 else 0) * (if e * d - c * g > 0 then 1 else if e * d - c * g < 0 then -1 else 0)) ≤ 0 ↔ ((decide (e * d - c * g < 0)) != (decide (a * g - e * b < 0))) = true := by
    generalize a * g - e * b = x at hu
    generalize e * d - c * g = y at ho
    by_cases x0 : x > 0
    · by_cases y0 : y > 0
      · rw [if_pos x0, if_pos y0, decide_eq_false (show ¬ y < 0 by omega), decide_eq_false (show ¬ x < 0 by omega)]
        rw [w64 (by decide) (by decide)]
        decide
      · rw [if_pos x0, if_neg y0, if_pos (show y < 0 by omega), decide_eq_true (show y < 0 by omega), decide_eq_false (show ¬ x < 0 by omega)]
        rw [w64 (by decide) (by decide)]
        decide
    · by_cases y0 : y > 0
      · rw [if_neg x0, if_pos (show x < 0 by omega), if_pos y0, decide_eq_false (show ¬ y < 0 by omega), decide_eq_true (show x < 0 by omega)]
        rw [w64 (by decide) (by decide)]
        decide
      · rw [if_neg x0, if_pos (show x < 0 by omega), if_neg y0, if_pos (show y < 0 by omega), decide_eq_true (show y < 0 by omega), decide_eq_true (show x < 0 by omega)]
        rw [w64 (by decide) (by decide)]
        decide
  by_cases hs : ((decide (e * d - c * g < 0)) != (decide (a * g - e * b < 0))) = true
  · refine ⟨(0, 0, false), ?_, ?_⟩
    · exact Ev.step (f := fun _ => some (0, 0, false)) (fun k => by rw [s1, if_pos (hsg.2 hs)]) (Ev.now _)
    · exact Ev.step (f := fun _ => some (0, 0, false)) (fun k => by rw [i1, if_neg hu, if_neg ho, if_pos hs]) (Ev.now _)
  obtain ⟨U, eU⟩ : ∃ q, (a * g - e * b).natAbs = q := ⟨_, rfl⟩
  obtain ⟨O, eO⟩ : ∃ q, (e * d - c * g).natAbs = q := ⟨_, rfl⟩
  obtain ⟨B, eB⟩ := Int.eq_ofNat_of_zero_le (show 0 ≤ b by omega)
  obtain ⟨D, eD⟩ := Int.eq_ofNat_of_zero_le (show 0 ≤ d by omega)
  obtain ⟨G, eG⟩ := Int.eq_ofNat_of_zero_le (show 0 ≤ g by omega)
  obtain ⟨R, k1, k2⟩ := blend_main (O := O) (U := U) (B := B) (D := D) (G := G) (by omega) (by omega) (by omega) (by omega) (by omega) (by omega) (by omega) (by omega) (by omega) (by omega) (if a * g - e * b > 0 then 1 else if a * g - e * b < 0 then -1 else 0) (if e * d - c * g > 0 then 1 else if e * d - c * g < 0 then -1 else 0)
  refine ⟨R, ?_, ?_⟩
  · refine Ev.step (fun k => ?_) k1
    rw [s1, if_neg (fun h => hs (hsg.1 h)), eU, eO, ← eB, ← eD, ← eG]
  · refine Ev.step (fun k => ?_) k2
    rw [i1, if_neg hu, if_neg ho, if_neg hs, eU, eO, ← eB, ← eD]
theorem FnExactBlendAmounts : ∀ (a0_0 : Int) (a0_1 : Int) (a1_0 : Int) (a1_1 : Int) (a2_0 : Int) (a2_1 : Int), ((Lit.int .i64 a0_0).wf = true) → ((Lit.int .i64 a0_1).wf = true) → ((Lit.int .i64 a1_0).wf = true) → ((Lit.int .i64 a1_1).wf = true) → ((Lit.int .i64 a2_0).wf = true) → ((Lit.int .i64 a2_1).wf = true) → ∃ k, laws_FnExactBlendAmounts.f k a0_0 a0_1 a1_0 a1_1 a2_0 a2_1 = some true := by
  intro a b c d e g _ _ _ _ _ _
  refine Ev.rounds (?_ : Ev (fun k => laws_FnExactBlendAmounts.f k a b c d e g) true)
  obtain ⟨⟨x, y, t⟩, hS, hI⟩ := blend_both a b c d e g
  unfold laws_FnExactBlendAmounts.f laws_toRatio.f
  refine Ev.now_ (Ev.now_ (Ev.now_ ?_))
  refine Ev.bind hS ?_
  try dsimp only
  refine Ev.now_ (Ev.now_ (Ev.now_ ?_))
  refine Ev.bind hI ?_
  try dsimp only
  refine Ev.ifT rfl (Ev.ifT rfl (Ev.ifF (by simp) (Ev.now _)))

end Go.Proofs.Ytpgjoagbmljmnaa.Pure

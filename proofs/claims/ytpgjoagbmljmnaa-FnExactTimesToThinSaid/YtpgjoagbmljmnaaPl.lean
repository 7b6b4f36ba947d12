/- Plain laws on whole numbers that several pure statements share: wraps, greatest common divisors, fractions in lowest terms. Of no program: the loops are any functions that unroll so. -/
import Derived.Test.YtpgjoagbmljmnaaWWords
namespace Go.Proofs.Ytpgjoagbmljmnaa.Pl
open Go.RowKit Go.Proofs.YtpgjoagbmljmnaaW.PrintWords

theorem w64 {x : Int} (h0 : -9223372036854775808 ≤ x) (h1 : x ≤ 9223372036854775807) : wrap64 x = x := by
  unfold wrap64
  omega

theorem wf64 {x : Int} (h : (Lit.int .i64 x).wf = true) : -9223372036854775808 ≤ x ∧ x ≤ 9223372036854775807 := by
  have : (Lit.int .i64 x).wf = decide (-9223372036854775808 ≤ x ∧ x ≤ 9223372036854775807) := by
    simp [Lit.wf, IntKind.min, IntKind.max, show IntKind.i64.signed = true from rfl, show IntKind.i64.bits = 64 from rfl]
  rw [this] at h
  exact of_decide_eq_true h

/-- A chain of calls with rounds: enough rounds for all. -/
theorem Ev.get {α : Type} {g : Nat → Option α} {r : α} (h : Ev g r) : ∃ K, ∀ k, K ≤ k → g k = some r := h
theorem Ev.at_ {α : Type} {g : Nat → Option α} {r : α} {K : Nat} (h : ∀ k, K ≤ k → g k = some r) : Ev g r := ⟨K, h⟩
theorem Ev.one {α : Type} {g : Nat → Option α} {r : α} (h : ∀ k, g k = some r) : Ev g r := ⟨0, fun k _ => h k⟩
theorem Ev.bind_ {α β : Type} {g : Nat → Option α} {f : Nat → α → Option β} {a : α} {r : β} (h : Ev g a) (k : Ev (fun n => f n a) r) : Ev (fun n => (g n).bind fun x => f n x) r := Ev.bind h k
theorem Ev.now_ {α β : Type} {a : α} {f : Nat → α → Option β} {r : β} (k : Ev (fun n => f n a) r) : Ev (fun n => (some a).bind fun x => f n x) r := Ev.congr (fun _ => rfl) k
theorem Ev.ifT {α : Type} {c : Prop} [Decidable c] {g f : Nat → Option α} {r : α} (hc : c) (k : Ev g r) : Ev (fun n => if c then g n else f n) r := Ev.congr (fun _ => if_pos hc) k
theorem Ev.ifF {α : Type} {c : Prop} [Decidable c] {g f : Nat → Option α} {r : α} (hc : ¬ c) (k : Ev f r) : Ev (fun n => if c then g n else f n) r := Ev.congr (fun _ => if_neg hc) k

/-! ### greatest common divisors -/
theorem gcd_def (a b : Int) : Int.gcd a b = Nat.gcd a.natAbs b.natAbs := rfl
theorem natAbs_tmod (a b : Int) : (Int.tmod a b).natAbs = a.natAbs % b.natAbs := Int.natAbs_tmod a b
theorem gcd_step (a b : Int) : Int.gcd b (Int.tmod a b) = Int.gcd a b := by
  rw [gcd_def, gcd_def, natAbs_tmod, Nat.gcd_comm b.natAbs, ← Nat.gcd_rec, Nat.gcd_comm]
theorem gcd_le_left' {a b : Int} (h : a ≠ 0) : (Int.gcd a b : Int) ≤ a.natAbs := by
  have := Nat.le_of_dvd (by omega) (Nat.gcd_dvd_left a.natAbs b.natAbs)
  rw [gcd_def]
  omega
theorem gcd_le_right' {a b : Int} (h : b ≠ 0) : (Int.gcd a b : Int) ≤ b.natAbs := by
  have := Nat.le_of_dvd (by omega) (Nat.gcd_dvd_right a.natAbs b.natAbs)
  rw [gcd_def]
  omega
theorem gcd_pos {a b : Int} (h : b ≠ 0) : (0 : Int) < Int.gcd a b := by
  have := Nat.gcd_pos_of_pos_right a.natAbs (show 0 < b.natAbs by omega)
  rw [gcd_def]
  omega

/-- impl.gcd's loop -/
theorem gcd_loop {l0 : Nat → Int → Int → Option Int} (h : ∀ k x y, l0 (k + 1) x y = if y = 0 then (if x < 0 then some (wrap64 (-x)) else some x) else l0 k y (Int.tmod x y)) :
    ∀ (n : Nat) (a b : Int), b.natAbs ≤ n → -9223372036854775807 ≤ a → a ≤ 9223372036854775807 → -9223372036854775807 ≤ b → b ≤ 9223372036854775807 → ∀ k, n + 1 ≤ k → l0 k a b = some (Int.gcd a b : Int) := by
  intro n
  induction n with
  | zero =>
    intro a b hb ha0 ha1 _ _ k hk
    obtain ⟨k, rfl⟩ : ∃ m, k = m + 1 := ⟨k - 1, by omega⟩
    have : b = 0 := by omega
    subst this
    rw [h, if_pos rfl, Int.gcd_zero_right]
    split
    · rw [w64 (by omega) (by omega)]; congr 1; omega
    · congr 1; omega
  | succ n ih =>
    intro a b hb ha0 ha1 hb0 hb1 k hk
    obtain ⟨k, rfl⟩ : ∃ m, k = m + 1 := ⟨k - 1, by omega⟩
    rw [h]
    by_cases hz : b = 0
    · subst hz
      rw [if_pos rfl, Int.gcd_zero_right]
      split
      · rw [w64 (by omega) (by omega)]; congr 1; omega
      · congr 1; omega
    · rw [if_neg hz]
      have hm : (Int.tmod a b).natAbs < b.natAbs := by rw [natAbs_tmod]; exact Nat.mod_lt _ (by omega)
      rw [ih b (Int.tmod a b) (by omega) hb0 hb1 (by omega) (by omega) k (by omega), gcd_step]

theorem gcd_ev {l0 : Nat → Int → Int → Option Int} (h : ∀ k x y, l0 (k + 1) x y = if y = 0 then (if x < 0 then some (wrap64 (-x)) else some x) else l0 k y (Int.tmod x y))
    {a b : Int} (ha0 : -9223372036854775807 ≤ a) (ha1 : a ≤ 9223372036854775807) (hb0 : -9223372036854775807 ≤ b) (hb1 : b ≤ 9223372036854775807) : Ev (fun k => l0 k a b) (Int.gcd a b : Int) :=
  ⟨b.natAbs + 1, fun k hk => gcd_loop h b.natAbs a b (Nat.le_refl _) ha0 ha1 hb0 hb1 k hk⟩

/-- spec.veCommon's loop -/
theorem common_loop {l0 : Nat → Int → Int → Option Int} (h : ∀ k x y, l0 (k + 1) x y = if y > 0 then (if y = 0 then none else l0 k y (Int.tmod x y)) else some x) :
    ∀ (n : Nat) (a b : Int), b.natAbs ≤ n → 0 ≤ a → 0 ≤ b → ∀ k, n + 1 ≤ k → l0 k a b = some (Int.gcd a b : Int) := by
  intro n
  induction n with
  | zero =>
    intro a b hb ha _ k hk
    obtain ⟨k, rfl⟩ : ∃ m, k = m + 1 := ⟨k - 1, by omega⟩
    have : b = 0 := by omega
    subst this
    rw [h, if_neg (by omega), Int.gcd_zero_right]
    congr 1; omega
  | succ n ih =>
    intro a b hb ha hb0 k hk
    obtain ⟨k, rfl⟩ : ∃ m, k = m + 1 := ⟨k - 1, by omega⟩
    rw [h]
    by_cases hz : b = 0
    · subst hz
      rw [if_neg (by omega), Int.gcd_zero_right]
      congr 1; omega
    · rw [if_pos (by omega), if_neg hz]
      have hm : (Int.tmod a b).natAbs < b.natAbs := by rw [natAbs_tmod]; exact Nat.mod_lt _ (by omega)
      have h0 : 0 ≤ Int.tmod a b := Int.tmod_nonneg b ha
      rw [ih b (Int.tmod a b) (by omega) hb0 h0 k (by omega), gcd_step]

theorem common_ev {l0 : Nat → Int → Int → Option Int} (h : ∀ k x y, l0 (k + 1) x y = if y > 0 then (if y = 0 then none else l0 k y (Int.tmod x y)) else some x)
    {a b : Int} (ha : 0 ≤ a) (hb : 0 ≤ b) : Ev (fun k => l0 k a b) (Int.gcd a b : Int) :=
  ⟨b.natAbs + 1, fun k hk => common_loop h b.natAbs a b (Nat.le_refl _) ha hb k hk⟩

theorem gcd_abs (a b : Int) : Int.gcd (if a > wrap64 (-a) then a else wrap64 (-a)) b = Int.gcd a b ∨ a = -9223372036854775808 ∨ ¬ (-9223372036854775808 ≤ a ∧ a ≤ 9223372036854775807) := by
  by_cases hr : -9223372036854775807 ≤ a ∧ a ≤ 9223372036854775807
  · left
    rw [w64 (x := -a) (by omega) (by omega)]
    split
    · rfl
    · rw [gcd_def, gcd_def, Int.natAbs_neg]
  · right
    omega

/-! ### lowest terms -/
def low (n d : Int) : Int × Int := (Int.tdiv n (Int.gcd n d), Int.tdiv d (Int.gcd n d))
theorem tdiv_bound (a b : Int) : (Int.tdiv a b).natAbs ≤ a.natAbs := by
  rw [Int.natAbs_tdiv]
  exact Nat.div_le_self _ _
theorem low_den_pos {n d : Int} (hd : 0 < d) : 0 < (low n d).2 := by
  have hg : (Int.gcd n d : Int) ∣ d := Int.gcd_dvd_right ..
  have hp := gcd_pos (a := n) (b := d) (by omega)
  obtain ⟨c, hc⟩ := hg
  have e : Int.tdiv d (Int.gcd n d) = c := by
    conv => lhs; arg 1; rw [hc]
    exact Int.mul_tdiv_cancel_left _ (by omega)
  show 0 < Int.tdiv d (Int.gcd n d)
  rw [e]
  by_cases h : 0 < c
  · exact h
  · exfalso
    have : (Int.gcd n d : Int) * c ≤ 0 := Int.mul_nonpos_of_nonneg_of_nonpos (by omega) (by omega)
    omega

end Go.Proofs.Ytpgjoagbmljmnaa.Pl

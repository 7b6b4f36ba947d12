/- Plain laws on whole numbers that several pure statements share: wraps, greatest common divisors, fractions in lowest terms. Of no program: the loops are any functions that unroll so. -/
import Derived.Test.YtobkbpoamicjgaaWWords
namespace Go.Proofs.Ytobkbpoamicjgaa.Pl
open Go.RowKit Go.Proofs.YtobkbpoamicjgaaW.PrintWords

theorem w64 {x : Int} (h0 : -9223372036854775808 ≤ x) (h1 : x ≤ 9223372036854775807) : wrap64 x = x := by
  unfold wrap64
  omega

theorem wf64 {x : Int} (h : (Lit.int .i64 x).wf = true) : -9223372036854775808 ≤ x ∧ x ≤ 9223372036854775807 := by
  have : (Lit.int .i64 x).wf = decide (-9223372036854775808 ≤ x ∧ x ≤ 9223372036854775807) := by
    simp [Lit.wf, IntKind.min, IntKind.max, show IntKind.i64.signed = true from rfl, show IntKind.i64.bits = 64 from rfl]
  rw [this] at h
  exact of_decide_eq_true h

/-- A chain of calls with rounds: enough rounds for all. -/
theorem Ev.get {α : Type} {g : Nat → Option α} {r : α} (h : Ev g r) : ∃ K, ∀ k, K ≤ k → g k = some r := h
theorem Ev.at_ {α : Type} {g : Nat → Option α} {r : α} {K : Nat} (h : ∀ k, K ≤ k → g k = some r) : Ev g r := ⟨K, h⟩
theorem Ev.one {α : Type} {g : Nat → Option α} {r : α} (h : ∀ k, g k = some r) : Ev g r := ⟨0, fun k _ => h k⟩
theorem Ev.bind_ {α β : Type} {g : Nat → Option α} {f : Nat → α → Option β} {a : α} {r : β} (h : Ev g a) (k : Ev (fun n => f n a) r) : Ev (fun n => (g n).bind fun x => f n x) r := Ev.bind h k
theorem Ev.now_ {α β : Type} {a : α} {f : Nat → α → Option β} {r : β} (k : Ev (fun n => f n a) r) : Ev (fun n => (some a).bind fun x => f n x) r := Ev.congr (fun _ => rfl) k
theorem Ev.ifT {α : Type} {c : Prop} [Decidable c] {g f : Nat → Option α} {r : α} (hc : c) (k : Ev g r) : Ev (fun n => if c then g n else f n) r := Ev.congr (fun _ => if_pos hc) k
theorem Ev.ifF {α : Type} {c : Prop} [Decidable c] {g f : Nat → Option α} {r : α} (hc : ¬ c) (k : Ev f r) : Ev (fun n => if c then g n else f n) r := Ev.congr (fun _ => if_neg hc) k

/-! ### greatest common divisors -/
theorem gcd_def (a b : Int) : Int.gcd a b = Nat.gcd a.natAbs b.natAbs := rfl
theorem natAbs_tmod (a b : Int) : (Int.tmod a b).natAbs = a.natAbs % b.natAbs := Int.natAbs_tmod a b
theorem gcd_step (a b : Int) : Int.gcd b (Int.tmod a b) = Int.gcd a b := by
  rw [gcd_def, gcd_def, natAbs_tmod, Nat.gcd_comm b.natAbs, ← Nat.gcd_rec, Nat.gcd_comm]
theorem gcd_le_left' {a b : Int} (h : a ≠ 0) : (Int.gcd a b : Int) ≤ a.natAbs := by
  have := Nat.le_of_dvd (by omega) (Nat.gcd_dvd_left a.natAbs b.natAbs)
  rw [gcd_def]
  omega
theorem gcd_le_right' {a b : Int} (h : b ≠ 0) : (Int.gcd a b : Int) ≤ b.natAbs := by
  have := Nat.le_of_dvd (by omega) (Nat.gcd_dvd_right a.natAbs b.natAbs)
  rw [gcd_def]
  omega
theorem gcd_pos {a b : Int} (h : b ≠ 0) : (0 : Int) < Int.gcd a b := by
  have := Nat.gcd_pos_of_pos_right a.natAbs (show 0 < b.natAbs by omega)
  rw [gcd_def]
  omega

/-- impl.gcd's loop -/
theorem gcd_loop {l0 : Nat → Int → Int → Option Int} (h : ∀ k x y, l0 (k + 1) x y = if y = 0 then (if x < 0 then some (wrap64 (-x)) else some x) else l0 k y (Int.tmod x y)) :
    ∀ (n : Nat) (a b : Int), b.natAbs ≤ n → -9223372036854775807 ≤ a → a ≤ 9223372036854775807 → -9223372036854775807 ≤ b → b ≤ 9223372036854775807 → ∀ k, n + 1 ≤ k → l0 k a b = some (Int.gcd a b : Int) := by
  intro n
  induction n with
  | zero =>
    intro a b hb ha0 ha1 _ _ k hk
    obtain ⟨k, rfl⟩ : ∃ m, k = m + 1 := ⟨k - 1, by omega⟩
    have : b = 0 := by omega
    subst this
    rw [h, if_pos rfl, Int.gcd_zero_right]
    split
    · rw [w64 (by omega) (by omega)]; congr 1; omega
    · congr 1; omega
  | succ n ih =>
    intro a b hb ha0 ha1 hb0 hb1 k hk
    obtain ⟨k, rfl⟩ : ∃ m, k = m + 1 := ⟨k - 1, by omega⟩
    rw [h]
    by_cases hz : b = 0
    · subst hz
      rw [if_pos rfl, Int.gcd_zero_right]
      split
      · rw [w64 (by omega) (by omega)]; congr 1; omega
      · congr 1; omega
    · rw [if_neg hz]
      have hm : (Int.tmod a b).natAbs < b.natAbs := by rw [natAbs_tmod]; exact Nat.mod_lt _ (by omega)
      rw [ih b (Int.tmod a b) (by omega) hb0 hb1 (by omega) (by omega) k (by omega), gcd_step]

theorem gcd_ev {l0 : Nat → Int → Int → Option Int} (h : ∀ k x y, l0 (k + 1) x y = if y = 0 then (if x < 0 then some (wrap64 (-x)) else some x) else l0 k y (Int.tmod x y))
    {a b : Int} (ha0 : -9223372036854775807 ≤ a) (ha1 : a ≤ 9223372036854775807) (hb0 : -9223372036854775807 ≤ b) (hb1 : b ≤ 9223372036854775807) : Ev (fun k => l0 k a b) (Int.gcd a b : Int) :=
  ⟨b.natAbs + 1, fun k hk => gcd_loop h b.natAbs a b (Nat.le_refl _) ha0 ha1 hb0 hb1 k hk⟩

/-- spec.veCommon's loop -/
theorem common_loop {l0 : Nat → Int → Int → Option Int} (h : ∀ k x y, l0 (k + 1) x y = if y > 0 then (if y = 0 then none else l0 k y (Int.tmod x y)) else some x) :
    ∀ (n : Nat) (a b : Int), b.natAbs ≤ n → 0 ≤ a → 0 ≤ b → ∀ k, n + 1 ≤ k → l0 k a b = some (Int.gcd a b : Int) := by
  intro n
  induction n with
  | zero =>
    intro a b hb ha _ k hk
    obtain ⟨k, rfl⟩ : ∃ m, k = m + 1 := ⟨k - 1, by omega⟩
    have : b = 0 := by omega
    subst this
    rw [h, if_neg (by omega), Int.gcd_zero_right]
    congr 1; omega
  | succ n ih =>
    intro a b hb ha hb0 k hk
    obtain ⟨k, rfl⟩ : ∃ m, k = m + 1 := ⟨k - 1, by omega⟩
    rw [h]
    by_cases hz : b = 0
    · subst hz
      rw [if_neg (by omega), Int.gcd_zero_right]
      congr 1; omega
    · rw [if_pos (by omega), if_neg hz]
      have hm : (Int.tmod a b).natAbs < b.natAbs := by rw [natAbs_tmod]; exact Nat.mod_lt _ (by omega)
      have h0 : 0 ≤ Int.tmod a b := Int.tmod_nonneg b ha
      rw [ih b (Int.tmod a b) (by omega) hb0 h0 k (by omega), gcd_step]

theorem common_ev {l0 : Nat → Int → Int → Option Int} (h : ∀ k x y, l0 (k + 1) x y = if y > 0 then (if y = 0 then none else l0 k y (Int.tmod x y)) else some x)
    {a b : Int} (ha : 0 ≤ a) (hb : 0 ≤ b) : Ev (fun k => l0 k a b) (Int.gcd a b : Int) :=
  ⟨b.natAbs + 1, fun k hk => common_loop h b.natAbs a b (Nat.le_refl _) ha hb k hk⟩

theorem gcd_abs (a b : Int) : Int.gcd (if a > wrap64 (-a) then a else wrap64 (-a)) b = Int.gcd a b ∨ a = -9223372036854775808 ∨ ¬ (-9223372036854775808 ≤ a ∧ a ≤ 9223372036854775807) := by
  by_cases hr : -9223372036854775807 ≤ a ∧ a ≤ 9223372036854775807
  · left
    rw [w64 (x := -a) (by omega) (by omega)]
    split
    · rfl
    · rw [gcd_def, gcd_def, Int.natAbs_neg]
  · right
    omega

/-! ### lowest terms -/
def low (n d : Int) : Int × Int := (Int.tdiv n (Int.gcd n d), Int.tdiv d (Int.gcd n d))
theorem tdiv_bound (a b : Int) : (Int.tdiv a b).natAbs ≤ a.natAbs := by
  rw [Int.natAbs_tdiv]
  exact Nat.div_le_self _ _
theorem low_den_pos {n d : Int} (hd : 0 < d) : 0 < (low n d).2 := by
  have hg : (Int.gcd n d : Int) ∣ d := Int.gcd_dvd_right ..
  have hp := gcd_pos (a := n) (b := d) (by omega)
  obtain ⟨c, hc⟩ := hg
  have e : Int.tdiv d (Int.gcd n d) = c := by
    conv => lhs; arg 1; rw [hc]
    exact Int.mul_tdiv_cancel_left _ (by omega)
  show 0 < Int.tdiv d (Int.gcd n d)
  rw [e]
  by_cases h : 0 < c
  · exact h
  · exfalso
    have : (Int.gcd n d : Int) * c ≤ 0 := Int.mul_nonpos_of_nonneg_of_nonpos (by omega) (by omega)
    omega

/-! ### loops over lists -/
theorem getD_eq {α : Type} (d : α) {x : List α} {j : Nat} (hj : j < x.length) : x.getD j d = x[j]'hj := by
  rw [List.getD_eq_getElem?_getD, List.getElem?_eq_getElem hj]
  rfl

/-- to..S: a copy, element by element -/
theorem copy_loop {α : Type} (d : α) {l0 : Nat → List α → List α → Int → Option (List α)}
    (h : ∀ k x y i, l0 (k + 1) x y i = if i < (x.length : Int) then (if 0 ≤ i then (if i < (y.length : Int) then l0 k x (y.set i.toNat (x.getD i.toNat d)) (wrap64 (i + 1)) else none) else none) else some y)
    (x : List α) (hx : x.length ≤ 4611686018427387904) (m : Nat) : ∀ (i : Int) (y : List α), 0 ≤ i → (x.length : Int) - i = m → y.length = x.length → (∀ j : Nat, j < i.toNat → y[j]? = x[j]?) → Ev (fun k => l0 k x y i) x := by
  induction m with
  | zero =>
    intro i y h0 hm hl hy
    refine Ev.step (f := fun _ => some y) (fun k => by rw [h, if_neg (by omega)]) ?_
    have : y = x := by
      apply List.ext_getElem?
      intro j
      by_cases hj : j < i.toNat
      · exact hy j hj
      · rw [List.getElem?_eq_none (by omega), List.getElem?_eq_none (by omega)]
    rw [this]
    exact Ev.now _
  | succ m ih =>
    intro i y h0 hm hl hy
    have hj : i.toNat < x.length := by omega
    refine Ev.step (f := fun k => l0 k x (y.set i.toNat (x.getD i.toNat d)) (i + 1)) (fun k => ?_) ?_
    · rw [h, if_pos (by omega), if_pos h0, if_pos (by omega), w64 (by omega) (by omega)]
    · refine ih (i + 1) _ (by omega) (by omega) (by rw [List.length_set]; exact hl) (fun j hlt => ?_)
      by_cases e : j = i.toNat
      · subst e
        rw [List.getElem?_set_self (by omega), getD_eq d hj, List.getElem?_eq_getElem hj]
      · rw [List.getElem?_set_ne (fun e' => e e'.symm)]
        exact hy j (by omega)
theorem copy_ev {α : Type} (d : α) {l0 : Nat → List α → List α → Int → Option (List α)}
    (h : ∀ k x y i, l0 (k + 1) x y i = if i < (x.length : Int) then (if 0 ≤ i then (if i < (y.length : Int) then l0 k x (y.set i.toNat (x.getD i.toNat d)) (wrap64 (i + 1)) else none) else none) else some y)
    (x : List α) (z : α) (hx : x.length ≤ 4611686018427387904) : Ev (fun k => l0 k x (List.replicate ((x.length : Int)).toNat z) 0) x :=
  copy_loop d h x hx x.length 0 _ (by omega) (by omega) (by simp) (fun j hj => absurd hj (by simp))

/-- eq..S of a list and itself -/
theorem same_loop {α : Type} {l0 : Nat → List α → List α → Int → Option Bool}
    (h : ∀ k x i, l0 (k + 1) x x i = if i < (x.length : Int) then (if 0 ≤ i then (if i < (x.length : Int) then l0 k x x (wrap64 (i + 1)) else none) else none) else some true)
    (x : List α) (hx : x.length ≤ 4611686018427387904) (m : Nat) : ∀ (i : Int), 0 ≤ i → (x.length : Int) - i = m → Ev (fun k => l0 k x x i) true := by
  induction m with
  | zero =>
    intro i h0 hm
    exact Ev.step (f := fun _ => some true) (fun k => by rw [h, if_neg (by omega)]) (Ev.now _)
  | succ m ih =>
    intro i h0 hm
    refine Ev.step (f := fun k => l0 k x x (i + 1)) (fun k => ?_) (ih (i + 1) (by omega) (by omega))
    rw [h, if_pos (by omega), if_pos h0, if_pos (by omega), w64 (by omega) (by omega)]
theorem same_ev {α : Type} {l0 : Nat → List α → List α → Int → Option Bool}
    (h : ∀ k x i, l0 (k + 1) x x i = if i < (x.length : Int) then (if 0 ≤ i then (if i < (x.length : Int) then l0 k x x (wrap64 (i + 1)) else none) else none) else some true)
    (x : List α) (hx : x.length ≤ 4611686018427387904) : Ev (fun k => l0 k x x 0) true := same_loop h x hx x.length 0 (by omega) (by omega)

/-- a test of all elements -/
theorem all_loop {α : Type} (d : α) (p : α → Bool) {l0 : Nat → List α → Int → Option Bool}
    (h : ∀ k x i, 0 ≤ i → l0 (k + 1) x i = if i < (x.length : Int) then (if p (x.getD i.toNat d) = true then l0 k x (wrap64 (i + 1)) else some false) else some true)
    (x : List α) (hx : x.length ≤ 4611686018427387904) (m : Nat) : ∀ (i : Int), 0 ≤ i → (x.length : Int) - i = m → Ev (fun k => l0 k x i) ((x.drop i.toNat).all p) := by
  induction m with
  | zero =>
    intro i h0 hm
    rw [List.drop_eq_nil_of_le (by omega)]
    exact Ev.step (f := fun _ => some true) (fun k => by rw [h k x i h0, if_neg (by omega)]) (Ev.now _)
  | succ m ih =>
    intro i h0 hm
    have hj : i.toNat < x.length := by omega
    have ih' := ih (i + 1) (by omega) (by omega)
    rw [show (i + 1).toNat = i.toNat + 1 by omega] at ih'
    rw [List.drop_eq_getElem_cons hj, List.all_cons, ← getD_eq d hj]
    cases hp : p (x.getD i.toNat d) with
    | true =>
      refine Ev.step (f := fun k => l0 k x (i + 1)) (fun k => ?_) (by simpa using ih')
      rw [h k x i h0, if_pos (by omega), if_pos hp, w64 (by omega) (by omega)]
    | false =>
      refine Ev.step (f := fun _ => some false) (fun k => ?_) (by simpa using Ev.now false)
      rw [h k x i h0, if_pos (by omega), if_neg (by rw [hp]; decide)]
theorem all_ev {α : Type} (d : α) (p : α → Bool) {l0 : Nat → List α → Int → Option Bool}
    (h : ∀ k x i, 0 ≤ i → l0 (k + 1) x i = if i < (x.length : Int) then (if p (x.getD i.toNat d) = true then l0 k x (wrap64 (i + 1)) else some false) else some true)
    (x : List α) (hx : x.length ≤ 4611686018427387904) : Ev (fun k => l0 k x 0) (x.all p) := by
  have := all_loop d p h x hx x.length 0 (by omega) (by omega)
  simpa using this

/-- mark..S: ascending numbers -/
def marks (k : Int) (n : Nat) : List Int := (List.range n).map fun (j : Nat) => k + (j : Int)
theorem marks_length (k : Int) (n : Nat) : (marks k n).length = n := by simp [marks]
theorem marks_get (k : Int) (n : Nat) {j : Nat} (hj : j < n) : (marks k n).getD j 0 = k + (j : Int) := by
  rw [getD_eq 0 (by rw [marks_length]; exact hj)]
  simp [marks]

/-- a sum -/
theorem sum_loop {l0 : Nat → List Int → Int → Int → Option Int}
    (h : ∀ k x s i, 0 ≤ i → l0 (k + 1) x s i = if i < (x.length : Int) then l0 k x (wrap64 (s + x.getD i.toNat 0)) (wrap64 (i + 1)) else some s)
    (x : List Int) (hx : x.length ≤ 4611686018427387904) (m : Nat) : ∀ (s i : Int), 0 ≤ i → (x.length : Int) - i = m → Ev (fun k => l0 k x s i) ((x.drop i.toNat).foldl (fun a b => wrap64 (a + b)) s) := by
  induction m with
  | zero =>
    intro s i h0 hm
    rw [List.drop_eq_nil_of_le (by omega)]
    exact Ev.step (f := fun _ => some s) (fun k => by rw [h k x s i h0, if_neg (by omega)]) (Ev.now _)
  | succ m ih =>
    intro s i h0 hm
    have hj : i.toNat < x.length := by omega
    have ih' := ih (wrap64 (s + x.getD i.toNat 0)) (i + 1) (by omega) (by omega)
    rw [show (i + 1).toNat = i.toNat + 1 by omega] at ih'
    rw [List.drop_eq_getElem_cons hj, List.foldl_cons, ← getD_eq 0 hj]
    refine Ev.step (f := fun k => l0 k x (wrap64 (s + x.getD i.toNat 0)) (i + 1)) (fun k => ?_) ih'
    rw [h k x s i h0, if_pos (by omega), w64 (x := i + 1) (by omega) (by omega)]
theorem sum_ev {l0 : Nat → List Int → Int → Int → Option Int}
    (h : ∀ k x s i, 0 ≤ i → l0 (k + 1) x s i = if i < (x.length : Int) then l0 k x (wrap64 (s + x.getD i.toNat 0)) (wrap64 (i + 1)) else some s)
    (x : List Int) (hx : x.length ≤ 4611686018427387904) (s : Int) : Ev (fun k => l0 k x s 0) (x.foldl (fun a b => wrap64 (a + b)) s) := by
  have := sum_loop h x hx x.length s 0 (by omega) (by omega)
  simpa using this

/-! ### loops over an index -/
def allFrom (p : Int → Bool) : Nat → Int → Bool
  | 0, _ => true
  | m + 1, i => p i && allFrom p m (i + 1)
theorem allFrom_iff {p : Int → Bool} {m : Nat} : ∀ {i : Int}, allFrom p m i = true ↔ ∀ j, i ≤ j → j < i + m → p j = true := by
  induction m with
  | zero =>
    intro i
    exact ⟨fun _ j h1 h2 => by omega, fun _ => rfl⟩
  | succ m ih =>
    intro i
    simp only [allFrom, Bool.and_eq_true, ih]
    constructor
    · rintro ⟨h1, h2⟩ j h3 h4
      by_cases e : j = i
      · rw [e]; exact h1
      · exact h2 j (by omega) (by omega)
    · intro h
      exact ⟨h i (by omega) (by omega), fun j h1 h2 => h j (by omega) (by omega)⟩
theorem allFrom_loop {p : Int → Bool} {l0 : Nat → Int → Option Bool} {n : Int} (hn : n ≤ 4611686018427387904)
    (h : ∀ k i, 0 ≤ i → l0 (k + 1) i = if i < n then (if p i = true then l0 k (wrap64 (i + 1)) else some false) else some true) (m : Nat) :
    ∀ (i : Int), 0 ≤ i → n - i = m → Ev (fun k => l0 k i) (allFrom p m i) := by
  induction m with
  | zero =>
    intro i h0 hm
    exact Ev.step (f := fun _ => some true) (fun k => by rw [h k i h0, if_neg (by omega)]) (Ev.now _)
  | succ m ih =>
    intro i h0 hm
    cases hp : p i with
    | true =>
      refine Ev.step (f := fun k => l0 k (i + 1)) (fun k => ?_) (by simpa [allFrom, hp] using ih (i + 1) (by omega) (by omega))
      rw [h k i h0, if_pos (by omega), if_pos hp, w64 (by omega) (by omega)]
    | false =>
      refine Ev.step (f := fun _ => some false) (fun k => ?_) (by simpa [allFrom, hp] using Ev.now false)
      rw [h k i h0, if_pos (by omega), if_neg (by rw [hp]; decide)]
theorem allFrom_ev {p : Int → Bool} {l0 : Nat → Int → Option Bool} {n : Nat} (hn : n ≤ 4611686018427387904)
    (h : ∀ k i, 0 ≤ i → l0 (k + 1) i = if i < (n : Int) then (if p i = true then l0 k (wrap64 (i + 1)) else some false) else some true) : Ev (fun k => l0 k 0) (allFrom p n 0) :=
  allFrom_loop (n := (n : Int)) (by omega) h n 0 (by omega) (by omega)

/-- a loop over an index with a state -/
def foldFrom {σ : Type} (f : Int → σ → σ) : Nat → Int → σ → σ
  | 0, _, s => s
  | m + 1, i, s => foldFrom f m (i + 1) (f i s)
theorem foldFrom_loop {σ ρ : Type} {f : Int → σ → σ} {g : σ → ρ} {I : σ → Prop} {l0 : Nat → Int → σ → Option ρ} {n : Int} (hn : n ≤ 4611686018427387904) (hI : ∀ i s, 0 ≤ i → i < n → I s → I (f i s))
    (h : ∀ k i s, 0 ≤ i → i < n → I s → l0 (k + 1) i s = l0 k (wrap64 (i + 1)) (f i s)) (hz : ∀ k i s, I s → ¬ i < n → l0 (k + 1) i s = some (g s)) (m : Nat) :
    ∀ (i : Int) (s : σ), 0 ≤ i → n - i = m → I s → Ev (fun k => l0 k i s) (g (foldFrom f m i s)) := by
  induction m with
  | zero =>
    intro i s h0 hm hs
    exact Ev.step (f := fun _ => some (g s)) (fun k => hz k i s hs (by omega)) (Ev.now _)
  | succ m ih =>
    intro i s h0 hm hs
    refine Ev.step (f := fun k => l0 k (i + 1) (f i s)) (fun k => ?_) (ih (i + 1) (f i s) (by omega) (by omega) (hI i s h0 (by omega) hs))
    rw [h k i s h0 (by omega) hs, w64 (by omega) (by omega)]

theorem loop_then {σ ρ : Type} {f : Int → σ → σ} {I : Int → σ → Prop} {l0 : Nat → Int → σ → Option ρ} {fin : Nat → σ → Option ρ} {n : Int} {r : ρ} (hn : n ≤ 4611686018427387904)
    (hI : ∀ i s, 0 ≤ i → i < n → I i s → I (i + 1) (f i s)) (h : ∀ k i s, 0 ≤ i → i < n → I i s → l0 (k + 1) i s = l0 k (wrap64 (i + 1)) (f i s)) (hz : ∀ k i s, I i s → ¬ i < n → l0 (k + 1) i s = fin k s) (m : Nat) :
    ∀ (i : Int) (s : σ), 0 ≤ i → n - i = m → I i s → Ev (fun k => fin k (foldFrom f m i s)) r → Ev (fun k => l0 k i s) r := by
  induction m with
  | zero =>
    intro i s h0 hm hs hr
    exact Ev.step (f := fun k => fin k s) (fun k => hz k i s hs (by omega)) hr
  | succ m ih =>
    intro i s h0 hm hs hr
    refine Ev.step (f := fun k => l0 k (i + 1) (f i s)) (fun k => ?_) (ih (i + 1) (f i s) (by omega) (by omega) (hI i s h0 (by omega) hs) hr)
    rw [h k i s h0 (by omega) hs, w64 (by omega) (by omega)]
theorem foldFrom_pair {σ τ : Type} (f : Int → σ → σ) (g : Int → τ → τ) (m : Nat) : ∀ (i : Int) (a : σ) (b : τ), foldFrom (fun i (s : σ × τ) => (f i s.1, g i s.2)) m i (a, b) = (foldFrom f m i a, foldFrom g m i b) := by
  induction m with
  | zero => intro i a b; rfl
  | succ m ih => intro i a b; exact ih (i + 1) (f i a) (g i b)
def listFrom {α : Type} (g : Int → α) : Nat → Int → List α
  | 0, _ => []
  | m + 1, i => g i :: listFrom g m (i + 1)
theorem listFrom_length {α : Type} (g : Int → α) (m : Nat) : ∀ i : Int, (listFrom g m i).length = m := by
  induction m with
  | zero => intro i; rfl
  | succ m ih => intro i; simp [listFrom, ih]
theorem listFrom_get {α : Type} (g : Int → α) (m : Nat) : ∀ (i : Int) (j : Nat), j < m → (listFrom g m i)[j]? = some (g (i + j)) := by
  induction m with
  | zero => intro i j hj; omega
  | succ m ih =>
    intro i j hj
    cases j with
    | zero => simp [listFrom]
    | succ j =>
      simp only [listFrom, List.getElem?_cons_succ]
      rw [ih (i + 1) j (by omega)]
      congr 2
      omega
theorem foldFrom_append {α : Type} (g : Int → α) (m : Nat) : ∀ (i : Int) (acc : List α), foldFrom (fun i (s : List α) => s ++ [g i]) m i acc = acc ++ listFrom g m i := by
  induction m with
  | zero => intro i acc; simp [foldFrom, listFrom]
  | succ m ih => intro i acc; simp [foldFrom, listFrom, ih]
theorem listFrom_map {α β : Type} (d : α) (l : List α) (F : α → β) : listFrom (fun i => F (l.getD i.toNat d)) l.length 0 = l.map F := by
  apply List.ext_getElem?
  intro j
  by_cases hj : j < l.length
  · rw [listFrom_get _ _ _ _ hj, List.getElem?_map, List.getElem?_eq_getElem hj, Option.map_some]
    rw [show (0 + (j : Int)).toNat = j by omega, getD_eq d hj]
  · rw [List.getElem?_eq_none (by rw [listFrom_length]; omega), List.getElem?_eq_none (by simp; omega)]
theorem foldFrom_set {α : Type} (d : α) (F : α → α) (m : Nat) : ∀ (i : Int) (s : List α), 0 ≤ i → i + m ≤ s.length →
    (foldFrom (fun i (s : List α) => s.set i.toNat (F (s.getD i.toNat d))) m i s).length = s.length ∧ ∀ j : Nat, (foldFrom (fun i (s : List α) => s.set i.toNat (F (s.getD i.toNat d))) m i s)[j]? = if i ≤ (j : Int) ∧ (j : Int) < i + m then (s[j]?).map F else s[j]? := by
  induction m with
  | zero =>
    intro i s h0 h1
    refine ⟨rfl, fun j => ?_⟩
    rw [if_neg (by omega)]
    rfl
  | succ m ih =>
    intro i s h0 h1
    obtain ⟨h2, h3⟩ := ih (i + 1) (s.set i.toNat (F (s.getD i.toNat d))) (by omega) (by rw [List.length_set]; omega)
    refine ⟨h2.trans (List.length_set ..), fun j => ?_⟩
    show (foldFrom _ m (i + 1) (s.set i.toNat (F (s.getD i.toNat d))))[j]? = _
    rw [h3 j]
    have hi : i.toNat < s.length := by omega
    by_cases e : j = i.toNat
    · subst e
      rw [if_neg (by omega), if_pos (by omega), List.getElem?_set_self hi, getD_eq d hi, List.getElem?_eq_getElem hi, Option.map_some]
    · rw [List.getElem?_set_ne (fun e' => e e'.symm)]
      by_cases c : i ≤ (j : Int) ∧ (j : Int) < i + ((m + 1 : Nat) : Int)
      · rw [if_pos (by omega), if_pos c]
      · rw [if_neg (by omega), if_neg c]
theorem foldFrom_set_all {α : Type} (d : α) (F : α → α) (s : List α) : foldFrom (fun i (s : List α) => s.set i.toNat (F (s.getD i.toNat d))) s.length 0 s = s.map F := by
  obtain ⟨h1, h2⟩ := foldFrom_set d F s.length 0 s (by omega) (by omega)
  apply List.ext_getElem?
  intro j
  rw [h2 j, List.getElem?_map]
  by_cases c : j < s.length
  · rw [if_pos (by omega)]
  · rw [if_neg (by omega), List.getElem?_eq_none (by omega)]
    rfl

/-! ### marks -/
theorem mark_loop {l0 : Nat → List Int → Int → Int → Option (Int × List Int)} (h : ∀ k x q i, 0 ≤ i → l0 (k + 1) x q i = if i < (x.length : Int) then l0 k (x.set i.toNat q) (wrap64 (q + 1)) (wrap64 (i + 1)) else some (q, x)) (q0 : Int) (hq0 : 0 ≤ q0) (hq1 : q0 ≤ 1000000000) (n : Nat) (hn : n ≤ 1000000000) (m : Nat) :
    ∀ (x : List Int) (i : Int), x.length = n → 0 ≤ i → (n : Int) - i = m → (∀ j : Nat, j < i.toNat → x[j]? = some (q0 + (j : Int))) → Ev (fun k => l0 k x (q0 + i) i) (q0 + (n : Int), marks q0 n) := by
  induction m with
  | zero =>
    intro x i hl h0 hm hx
    refine Ev.step (f := fun _ => some (q0 + i, x)) (fun k => by rw [h k x _ i h0, if_neg (by omega)]) ?_
    have e1 : q0 + i = q0 + (n : Int) := by omega
    have e2 : x = marks q0 n := by
      apply List.ext_getElem?
      intro j
      by_cases hj : j < n
      · rw [hx j (by omega)]
        simp [marks, hj]
      · rw [List.getElem?_eq_none (by omega), List.getElem?_eq_none (by rw [marks_length]; omega)]
    rw [e1, e2]
    exact Ev.now _
  | succ m ih =>
    intro x i hl h0 hm hx
    refine Ev.step (f := fun k => l0 k (x.set i.toNat (q0 + i)) (q0 + (i + 1)) (i + 1)) (fun k => ?_) (ih _ (i + 1) (by rw [List.length_set]; exact hl) (by omega) (by omega) (fun j hj => ?_))
    · rw [h k x _ i h0, if_pos (by omega), w64 (x := i + 1) (by omega) (by omega), w64 (x := q0 + i + 1) (by omega) (by omega), Int.add_assoc]
    · by_cases e : j = i.toNat
      · subst e
        rw [List.getElem?_set_self (by omega)]
        congr 1
        omega
      · rw [List.getElem?_set_ne (fun e' => e e'.symm)]
        exact hx j (by omega)
theorem mark_ev {l0 : Nat → List Int → Int → Int → Option (Int × List Int)} (h : ∀ k x q i, 0 ≤ i → l0 (k + 1) x q i = if i < (x.length : Int) then l0 k (x.set i.toNat q) (wrap64 (q + 1)) (wrap64 (i + 1)) else some (q, x)) (q0 : Int) (hq0 : 0 ≤ q0) (hq1 : q0 ≤ 1000000000) (x : List Int) (hn : x.length ≤ 1000000000) :
    Ev (fun k => l0 k x q0 0) (q0 + (x.length : Int), marks q0 x.length) := by
  have := mark_loop h q0 hq0 hq1 x.length hn x.length x 0 rfl (by omega) (by omega) (fun j hj => absurd hj (by simp))
  rwa [Int.add_zero] at this
theorem held_loop {l0 : Nat → List Int → Int → Int → Option Int} (h : ∀ k x q i, 0 ≤ i → i < (x.length : Int) → x.getD i.toNat 0 = q → l0 (k + 1) x q i = l0 k x (wrap64 (q + 1)) (wrap64 (i + 1))) (hz : ∀ k x q i, ¬ i < (x.length : Int) → l0 (k + 1) x q i = some q) (q0 : Int) (hq0 : 0 ≤ q0) (hq1 : q0 ≤ 1000000000) (n : Nat) (hn : n ≤ 1000000000) (m : Nat) :
    ∀ (i : Int), 0 ≤ i → (n : Int) - i = m → Ev (fun k => l0 k (marks q0 n) (q0 + i) i) (q0 + (n : Int)) := by
  induction m with
  | zero =>
    intro i h0 hm
    refine Ev.step (f := fun _ => some (q0 + i)) (fun k => hz k _ _ i (by rw [marks_length]; omega)) ?_
    rw [show q0 + i = q0 + (n : Int) by omega]
    exact Ev.now _
  | succ m ih =>
    intro i h0 hm
    refine Ev.step (f := fun k => l0 k (marks q0 n) (q0 + (i + 1)) (i + 1)) (fun k => ?_) (ih (i + 1) (by omega) (by omega))
    rw [h k _ _ i h0 (by rw [marks_length]; omega) (by rw [marks_get q0 n (by omega)]; omega), w64 (x := i + 1) (by omega) (by omega), w64 (x := q0 + i + 1) (by omega) (by omega), Int.add_assoc]
theorem held_ev {l0 : Nat → List Int → Int → Int → Option Int} (h : ∀ k x q i, 0 ≤ i → i < (x.length : Int) → x.getD i.toNat 0 = q → l0 (k + 1) x q i = l0 k x (wrap64 (q + 1)) (wrap64 (i + 1))) (hz : ∀ k x q i, ¬ i < (x.length : Int) → l0 (k + 1) x q i = some q) (q0 : Int) (hq0 : 0 ≤ q0) (hq1 : q0 ≤ 1000000000) (n : Nat) (hn : n ≤ 1000000000) :
    Ev (fun k => l0 k (marks q0 n) q0 0) (q0 + (n : Int)) := by
  have := held_loop h hz q0 hq0 hq1 n hn n 0 (by omega) (by omega)
  rwa [Int.add_zero] at this

end Go.Proofs.Ytobkbpoamicjgaa.Pl

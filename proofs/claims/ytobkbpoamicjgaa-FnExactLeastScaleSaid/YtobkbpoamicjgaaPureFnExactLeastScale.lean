/- The pure statement of the law FnExactLeastScale: what its printed functions compute is true for every input. No conditions. -/
import Derived.Test.YtobkbpoamicjgaaPFnExactLeastScalex6
import Derived.Test.YtobkbpoamicjgaaPl
namespace Go.Proofs.Ytobkbpoamicjgaa.Pure
open Go.RowKit Go.Proofs.Ytobkbpoamicjgaa.PFnExactLeastScale Go.Proofs.YtobkbpoamicjgaaW.PrintWords Go.Proofs.YtobkbpoamicjgaaW.PrintLast Go.Proofs.Ytobkbpoamicjgaa.Pl
set_option linter.unusedVariables false
set_option linter.unusedSimpArgs false

theorem within_val (x a b : Int) : impl_within.f x a b = some (decide (a ≤ x ∧ x ≤ b)) := by
  unfold impl_within.f
  by_cases h : a ≤ x <;> simp [h]
theorem in_val (x a b : Int) : spec_l1In.f x a b = some (decide (a ≤ x ∧ x ≤ b)) := within_val x a b
/-- all elements lie in some bounds -/
def allIn (l : List Int) (a b : Int) : Bool := l.all fun x => decide (a ≤ x ∧ x ≤ b)
theorem areWithin_val (l : List Int) (a b : Int) : impl_areWithin.f l a b = some (allIn l a b) := by
  unfold impl_areWithin.f allIn
  congr 1
  rw [List.any_eq_not_all_not, Bool.not_not]
  congr 1
  funext x
  simp
theorem l1All_ev (l : List Int) (a b : Int) (hl : l.length ≤ 1048576) : Ev (fun k => spec_l1All.f k l a b) (allIn l a b) := by
  refine all_ev (l0 := fun k x i => spec_l1All.l0 k a b x (x.length : Int) i) 0 (fun x => decide (a ≤ x ∧ x ≤ b)) (fun k x i h0 => ?_) l (by omega)
  show spec_l1All.l0 (k + 1) a b x (x.length : Int) i = _
  simp only [spec_l1All.l0, in_val, Option.bind_some]
  by_cases hi : i < (x.length : Int)
  · rw [if_pos hi, if_pos h0, if_pos hi, if_pos hi]
    rfl
  · rw [if_neg hi, if_neg hi]
/-- vessels -/
def goodV (s h : List Int) : Bool := decide (1 ≤ (s.length : Int) ∧ (s.length : Int) ≤ 5) && (decide ((h.length : Int) = s.length) && (allIn s 1 60 && allFrom (fun i => decide (0 ≤ rd h i ∧ rd h i ≤ rd s i)) h.length 0))
theorem goodV_le {s h : List Int} (hg : goodV s h = true) : 1 ≤ s.length ∧ s.length ≤ 5 ∧ h.length = s.length ∧ (∀ x ∈ s, 1 ≤ x ∧ x ≤ 60) ∧ ∀ j : Int, 0 ≤ j → j < h.length → 0 ≤ rd h j ∧ rd h j ≤ rd s j := by
  unfold goodV allIn at hg
  simp only [Bool.and_eq_true, decide_eq_true_eq, List.all_eq_true, allFrom_iff] at hg
  exact ⟨by omega, by omega, by omega, hg.2.2.1, fun j h0 h1 => hg.2.2.2 j h0 (by omega)⟩
theorem areVessels_ev (s h : List Int) (hs : s.length ≤ 1048576) (hh : h.length ≤ 1048576) : Ev (fun k => impl_AreVessels.f k s h) (goodV s h) := by
  unfold impl_AreVessels.f goodV
  simp only [within_val, areWithin_val, Option.bind_some]
  by_cases h1 : 1 ≤ (s.length : Int) ∧ (s.length : Int) ≤ 5
  · rw [decide_eq_true h1]
    refine Ev.ifT rfl ?_
    by_cases h2 : (h.length : Int) = s.length
    · rw [decide_eq_true h2]
      refine Ev.ifT h2 ?_
      cases allIn s 1 60 with
      | true =>
        refine Ev.step (f := fun k => impl_AreVessels.l0 k h (h.length : Int) 0 s h) (fun k => by simp only [impl_AreVessels.j0, Bool.not_true, Bool.false_eq_true, if_false]) ?_
        refine allFrom_ev (l0 := fun k i => impl_AreVessels.l0 k h (h.length : Int) i s h) (by omega) (fun k i h0 => ?_)
        show impl_AreVessels.l0 (k + 1) h (h.length : Int) i s h = _
        simp only [impl_AreVessels.l0, within_val, Option.bind_some]
        by_cases hi : i < (h.length : Int)
        · rw [if_pos hi, if_pos h0, if_pos hi, if_pos (by omega), if_pos hi]
        · rw [if_neg hi, if_neg hi]
      | false => exact Ev.step (f := fun _ => some false) (fun k => by simp only [impl_AreVessels.j0, Bool.not_false, if_true]) (Ev.now _)
    · rw [decide_eq_false h2]
      exact Ev.ifF h2 (Ev.step (f := fun _ => some false) (fun k => by simp only [impl_AreVessels.j0, if_true]) (Ev.now _))
  · rw [decide_eq_false h1]
    exact Ev.ifF (by decide) (Ev.step (f := fun _ => some false) (fun k => by simp only [impl_AreVessels.j0, if_true]) (Ev.now _))
theorem veGood_ev (s h : List Int) (hs : s.length ≤ 1048576) (hh : h.length ≤ 1048576) : Ev (fun k => spec_veGood.f k s h) (goodV s h) := by
  unfold spec_veGood.f goodV
  simp only [in_val, Option.bind_some]
  by_cases h1 : 1 ≤ (s.length : Int) ∧ (s.length : Int) ≤ 5
  · rw [decide_eq_true h1]
    refine Ev.ifT rfl ?_
    by_cases h2 : (h.length : Int) = s.length
    · rw [decide_eq_true h2]
      refine Ev.ifT h2 (Ev.bind (l1All_ev s 1 60 hs) ?_)
      try dsimp only
      cases allIn s 1 60 with
      | true =>
        refine Ev.step (f := fun k => spec_veGood.l0 k h (h.length : Int) 0 s h) (fun k => by simp only [spec_veGood.j0, Bool.not_true, Bool.false_eq_true, if_false]) ?_
        refine allFrom_ev (l0 := fun k i => spec_veGood.l0 k h (h.length : Int) i s h) (by omega) (fun k i h0 => ?_)
        show spec_veGood.l0 (k + 1) h (h.length : Int) i s h = _
        simp only [spec_veGood.l0, in_val, Option.bind_some]
        by_cases hi : i < (h.length : Int)
        · rw [if_pos hi, if_pos h0, if_pos hi, if_pos (by omega), if_pos hi]
        · rw [if_neg hi, if_neg hi]
      | false => exact Ev.step (f := fun _ => some false) (fun k => by simp only [spec_veGood.j0, Bool.not_false, if_true]) (Ev.now _)
    · rw [decide_eq_false h2]
      exact Ev.ifF h2 (Ev.step (f := fun _ => some false) (fun k => by simp only [spec_veGood.j0, if_true]) (Ev.now _))
  · rw [decide_eq_false h1]
    exact Ev.ifF (by decide) (Ev.step (f := fun _ => some false) (fun k => by simp only [spec_veGood.j0, if_true]) (Ev.now _))
theorem toIntS_ev (l : List Int) (hl : l.length ≤ 1048576) : Ev (fun k => laws_toIntS.f k l) l := by
  refine Ev.congr (fun k => ?_) (copy_ev 0 (l0 := laws_toIntS.l0) (fun _ _ _ _ => rfl) l 0 (by omega))
  show laws_toIntS.f k l = _
  unfold laws_toIntS.f
  rw [if_pos (by omega), if_pos (by omega)]
theorem eqIntS_ev (l : List Int) (hl : l.length ≤ 1048576) : Ev (fun k => laws_eqIntS.f k l l) true := by
  refine Ev.congr (fun k => ?_) (same_ev (l0 := laws_eqIntS.l0) (fun k x i => by simp only [laws_eqIntS.l0, if_true]) l (by omega))
  show laws_eqIntS.f k l l = _
  unfold laws_eqIntS.f
  rw [if_pos rfl]
theorem szIntS_val (l : List Int) (a : Int) (hl : l.length ≤ maxLen) (ha0 : 0 ≤ a) (ha1 : a ≤ 1048576) : laws_szIntS.f l a = some (if (l.length : Int) ≤ a then a - (l.length : Int) else (-1 : Int)) := by
  simp only [maxLen] at hl
  unfold laws_szIntS.f
  rw [w64 (by omega) (by omega)]
  by_cases h : a - (l.length : Int) < 0
  · rw [if_pos h, if_neg (by omega)]
  · rw [if_neg h, if_pos (by omega)]
theorem szVessels_val (s h : List Int) (hs : s.length ≤ maxLen) (hh : h.length ≤ maxLen) (a : Int) (ha0 : 0 ≤ a) (ha1 : a ≤ 1048576) : laws_szVessels.f s h a = some (if (s.length : Int) + (h.length : Int) ≤ a then a - (s.length : Int) - (h.length : Int) else (-1 : Int)) := by
  unfold laws_szVessels.f
  rw [szIntS_val s a hs ha0 ha1, Option.bind_some]
  by_cases h1 : (s.length : Int) ≤ a
  · rw [if_pos h1, if_neg (by omega), szIntS_val h _ hh (by omega) (by omega), Option.bind_some]
    by_cases h2 : (h.length : Int) ≤ a - (s.length : Int)
    · rw [if_pos h2, if_neg (by omega), if_pos (by omega)]
    · rw [if_neg h2, if_pos (by omega), if_neg (by omega)]
  · rw [if_neg h1, if_pos (by omega), if_neg (by omega)]
theorem toVessels_ev (s h : List Int) (hs : s.length ≤ 1048576) (hh : h.length ≤ 1048576) : Ev (fun k => laws_toVessels.f k s h) (s, h) := by
  unfold laws_toVessels.f
  refine Ev.bind (toIntS_ev s hs) ?_
  try dsimp only
  refine Ev.bind (toIntS_ev h hh) ?_
  exact Ev.now _
theorem eqVessels_ev (s h : List Int) (hs : s.length ≤ 1048576) (hh : h.length ≤ 1048576) : Ev (fun k => laws_eqVessels.f k s h s h) true := by
  unfold laws_eqVessels.f
  refine Ev.bind (eqIntS_ev s hs) ?_
  try dsimp only
  refine Ev.ifT rfl (Ev.bind (eqIntS_ev h hh) ?_)
  exact Ev.ifT rfl (Ev.now _)
theorem markIntS_ev (l : List Int) (q : Int) (hq0 : 0 ≤ q) (hq1 : q ≤ 100000000) (hl : l.length ≤ 1048576) : Ev (fun k => laws_markIntS.f k l q) (q + (l.length : Int), marks q l.length) := by
  refine mark_ev (l0 := laws_markIntS.l0) (fun k x q i h0 => ?_) q hq0 (by omega) l (by omega)
  simp only [laws_markIntS.l0, if_pos h0]
theorem markVessels_ev (s h : List Int) (q : Int) (hq0 : 0 ≤ q) (hq1 : q + (s.length : Int) ≤ 100000000) (hs : s.length ≤ 1048576) (hh : h.length ≤ 1048576) : Ev (fun k => laws_markVessels.f k s h q) (q + (s.length : Int) + (h.length : Int), marks q s.length, marks (q + (s.length : Int)) h.length) := by
  unfold laws_markVessels.f
  refine Ev.bind (markIntS_ev s q hq0 (by omega) hs) ?_
  try dsimp only
  refine Ev.bind (markIntS_ev h (q + (s.length : Int)) (by omega) hq1 hh) ?_
  exact Ev.now _
theorem heldIntS_ev (q : Int) (n : Nat) (hq0 : 0 ≤ q) (hq1 : q ≤ 100000000) (hl : n ≤ 1048576) : Ev (fun k => laws_heldIntS.f k (marks q n) q) (q + (n : Int)) := by
  refine held_ev (l0 := laws_heldIntS.l0) (fun k x q i h0 h1 h2 => ?_) (fun k x q i h1 => ?_) q hq0 (by omega) n (by omega)
  · simp only [laws_heldIntS.l0]
    rw [if_pos h1, if_pos h0, if_pos (show rd x i = q from h2)]
  · simp only [laws_heldIntS.l0]
    rw [if_neg h1]
theorem heldVessels_ev (n m : Nat) (q : Int) (hq0 : 0 ≤ q) (hq1 : q + (n : Int) ≤ 100000000) (hs : n ≤ 1048576) (hh : m ≤ 1048576) : Ev (fun k => laws_heldVessels.f k (marks q n) (marks (q + (n : Int)) m) q) (q + (n : Int) + (m : Int)) := by
  unfold laws_heldVessels.f
  refine Ev.bind (heldIntS_ev q n hq0 (by omega) hs) ?_
  try dsimp only
  refine Ev.ifF (by omega) (Ev.bind (heldIntS_ev (q + (n : Int)) m (by omega) hq1 hh) ?_)
  exact Ev.ifF (by omega) (Ev.now _)
theorem clone_val (l : List Int) (hl : l.length ≤ 1048576) : slices_Clone_int_int.f l = some l := by
  unfold slices_Clone_int_int.f
  rw [if_pos (by omega)]
theorem own_val (s h : List Int) (hs : s.length ≤ 1048576) (hh : h.length ≤ 1048576) : impl_Vessels_own.f s h = some (s, h) := by
  unfold impl_Vessels_own.f
  rw [clone_val s hs, Option.bind_some, clone_val h hh, Option.bind_some]
/-- the greatest common divisor of all -/
def gl (d : Int) (l : List Int) : Int := l.foldl (fun g x => (Int.gcd g x : Int)) d
theorem gcd60 {d x : Int} (hd : 0 ≤ d ∧ d ≤ 60) (hx : 0 ≤ x ∧ x ≤ 60) : 0 ≤ (Int.gcd d x : Int) ∧ (Int.gcd d x : Int) ≤ 60 := by
  refine ⟨Int.natCast_nonneg _, ?_⟩
  by_cases h : d = 0
  · rw [h, Int.gcd_zero_left, Int.natAbs_of_nonneg hx.1]
    exact hx.2
  · have := Int.le_of_dvd (show 0 < d by omega) (Int.gcd_dvd_left d x)
    omega
theorem divs_ev : ∀ (l : List Int) (d : Int), (∀ x ∈ l, 0 ≤ x ∧ x ≤ 60) → 0 ≤ d ∧ d ≤ 60 → Ev (fun k => divs k d l) (gl d l)
  | [], d, _, _ => Ev.now _
  | x :: r, d, hl, hd => by
    have hx := hl x (by simp)
    show Ev (fun k => (impl_gcd.f k d x).bind fun t => divs k t r) (gl (Int.gcd d x) r)
    exact Ev.bind (g := fun k => impl_gcd.f k d x) (gcd_ev (l0 := impl_gcd.l0) (fun _ _ _ => rfl) (a := d) (b := x) (by omega) (by omega) (by omega) (by omega)) (divs_ev r _ (fun y hy => hl y (List.mem_cons_of_mem _ hy)) (gcd60 hd hx))
theorem dvd_gcd_iff (c a b : Int) : c ∣ (Int.gcd a b : Int) ↔ c ∣ a ∧ c ∣ b :=
  ⟨fun h => ⟨Int.dvd_trans h (Int.gcd_dvd_left a b), Int.dvd_trans h (Int.gcd_dvd_right a b)⟩, fun h => Int.dvd_coe_gcd h.1 h.2⟩
theorem dvd_gl (c : Int) : ∀ (l : List Int) (d : Int), c ∣ gl d l ↔ c ∣ d ∧ ∀ x ∈ l, c ∣ x
  | [], d => by simp [gl]
  | x :: r, d => by
    show c ∣ gl (Int.gcd d x) r ↔ _
    rw [dvd_gl c r, dvd_gcd_iff]
    simp only [List.mem_cons, forall_eq_or_imp]
    constructor
    · rintro ⟨⟨a, b⟩, e⟩
      exact ⟨a, b, e⟩
    · rintro ⟨a, b, e⟩
      exact ⟨⟨a, b⟩, e⟩
theorem gl_nonneg : ∀ (l : List Int) (d : Int), 0 ≤ d → 0 ≤ gl d l
  | [], d, h => h
  | x :: r, d, _ => gl_nonneg r _ (Int.natCast_nonneg _)
/-- the same in the reference's order -/
def il (s h : List Int) (m : Nat) (i g : Int) : Int := foldFrom (fun i g => (Int.gcd (Int.gcd g (rd s i)) (rd h i) : Int)) m i g
theorem dvd_il (s h : List Int) (c : Int) : ∀ (m : Nat) (i g : Int), c ∣ il s h m i g ↔ c ∣ g ∧ ∀ j : Int, i ≤ j → j < i + m → c ∣ rd s j ∧ c ∣ rd h j
  | 0, i, g => by
    simp only [il, foldFrom]
    exact ⟨fun h => ⟨h, fun j h0 h1 => by omega⟩, fun h => h.1⟩
  | m + 1, i, g => by
    show c ∣ il s h m (i + 1) (Int.gcd (Int.gcd g (rd s i)) (rd h i)) ↔ _
    rw [dvd_il s h c m, dvd_gcd_iff, dvd_gcd_iff]
    constructor
    · rintro ⟨⟨⟨a, b⟩, e⟩, f⟩
      refine ⟨a, fun j h0 h1 => ?_⟩
      by_cases hj : j = i
      · rw [hj]
        exact ⟨b, e⟩
      · exact f j (by omega) (by omega)
    · rintro ⟨a, f⟩
      have h0 := f i (by omega) (by omega)
      exact ⟨⟨⟨a, h0.1⟩, h0.2⟩, fun j h1 h2 => f j (by omega) (by omega)⟩
theorem il_nonneg (s h : List Int) : ∀ (m : Nat) (i g : Int), 0 ≤ g → 0 ≤ il s h m i g
  | 0, _, _, h0 => h0
  | m + 1, i, _, _ => il_nonneg s h m (i + 1) _ (Int.natCast_nonneg _)
theorem rd_mem {l : List Int} {j : Int} (h0 : 0 ≤ j) (h1 : j < l.length) : rd l j ∈ l := by
  unfold rd
  rw [getD_eq 0 (by omega)]
  exact List.getElem_mem _
theorem mem_rd {l : List Int} {x : Int} (h : x ∈ l) : ∃ j : Int, 0 ≤ j ∧ j < l.length ∧ rd l j = x := by
  obtain ⟨j, hj, rfl⟩ := List.mem_iff_getElem.1 h
  refine ⟨j, by omega, by omega, ?_⟩
  unfold rd
  rw [getD_eq 0 (by simpa using hj)]
  simp
theorem il_eq {s h : List Int} (e : h.length = s.length) : il s h s.length 0 0 = gl 0 (s ++ h) := by
  have key : ∀ c : Int, c ∣ il s h s.length 0 0 ↔ c ∣ gl 0 (s ++ h) := by
    intro c
    rw [dvd_il, dvd_gl]
    constructor
    · rintro ⟨a, f⟩
      refine ⟨a, fun x hx => ?_⟩
      rcases List.mem_append.1 hx with hx | hx
      · obtain ⟨j, h0, h1, rfl⟩ := mem_rd hx
        exact (f j h0 (by omega)).1
      · obtain ⟨j, h0, h1, rfl⟩ := mem_rd hx
        exact (f j h0 (by omega)).2
    · rintro ⟨a, f⟩
      exact ⟨a, fun j h0 h1 => ⟨f _ (List.mem_append_left _ (rd_mem h0 (by omega))), f _ (List.mem_append_right _ (rd_mem h0 (by omega)))⟩⟩
  exact Int.dvd_antisymm (il_nonneg _ _ _ _ _ (Int.le_refl _)) (gl_nonneg _ _ (Int.le_refl _)) ((key _).1 (Int.dvd_refl _)) ((key _).2 (Int.dvd_refl _))
/-- all divided by a number -/
def parted (l : List Int) (d : Int) : List Int := l.map fun x => wrap64 (Int.tdiv x d)
/-- the answer -/
def answer (s h : List Int) : List Int × List Int × Int × Bool := if goodV s h = true then (parted s (gl 0 (s ++ h)), parted h (gl 0 (s ++ h)), gl 0 (s ++ h), true) else ([], [], 0, false)
theorem goodV_60 {s h : List Int} (hg : goodV s h = true) : (∀ j : Int, 0 ≤ j → j < s.length → (1 ≤ rd s j ∧ rd s j ≤ 60) ∧ (0 ≤ rd h j ∧ rd h j ≤ 60)) ∧ (∀ x ∈ s ++ h, 0 ≤ x ∧ x ≤ 60) ∧ gl 0 (s ++ h) ≠ 0 := by
  have hv := goodV_le hg
  have h1 : ∀ j : Int, 0 ≤ j → j < s.length → (1 ≤ rd s j ∧ rd s j ≤ 60) ∧ (0 ≤ rd h j ∧ rd h j ≤ 60) := by
    intro j h0 h1
    have a := hv.2.2.2.1 _ (rd_mem h0 h1)
    have b := hv.2.2.2.2 j h0 (by omega)
    omega
  refine ⟨h1, fun x hx => ?_, fun e => ?_⟩
  · rcases List.mem_append.1 hx with hx | hx
    · obtain ⟨j, h2, h3, rfl⟩ := mem_rd hx
      have := h1 j h2 h3
      omega
    · obtain ⟨j, h2, h3, rfl⟩ := mem_rd hx
      have := h1 j h2 (by omega)
      omega
  · have h2 := ((dvd_gl 0 (s ++ h) 0).1 (by rw [e]; exact Int.dvd_refl 0)).2 (rd s 0) (List.mem_append_left _ (rd_mem (Int.le_refl 0) (by omega)))
    have h3 := Int.zero_dvd.1 h2
    have := h1 0 (by omega) (by omega)
    omega
theorem spec_ev (s h : List Int) (hs : s.length ≤ 1048576) (hh : h.length ≤ 1048576) : Ev (fun k => spec_LeastScale.f k s h) (answer s h) := by
  unfold spec_LeastScale.f answer
  refine Ev.bind (veGood_ev s h hs hh) ?_
  try dsimp only
  cases hg : goodV s h with
  | false =>
    rw [if_neg (by decide)]
    exact Ev.ifF (by decide) (Ev.now _)
  | true =>
    have hv := goodV_le hg
    obtain ⟨h60, _, hd⟩ := goodV_60 hg
    rw [if_pos rfl]
    refine Ev.ifT rfl ?_
    have fin : Ev (fun k => spec_LeastScale.l1 k (gl 0 (s ++ h)) s (s.length : Int) 0 s h [] []) (parted s (gl 0 (s ++ h)), parted h (gl 0 (s ++ h)), gl 0 (s ++ h), true) := by
      generalize gl 0 (s ++ h) = d at hd
      refine loop_then (σ := List Int × List Int) (l0 := fun k i t => spec_LeastScale.l1 k d s (s.length : Int) i s h t.1 t.2) (fin := fun k t => some (t.1, t.2, d, true))
        (f := fun i t => (t.1 ++ [wrap64 (Int.tdiv (rd s i) d)], t.2 ++ [wrap64 (Int.tdiv (rd h i) d)])) (I := fun i t => (t.1.length : Int) = i ∧ (t.2.length : Int) = i) (n := (s.length : Int)) (by omega) ?_ ?_ ?_ s.length 0 ([], []) (by omega) (by omega) ⟨rfl, rfl⟩ ?_
      · rintro i ⟨a, b⟩ h0 h1 ⟨h2, h3⟩
        dsimp only at h2 h3 ⊢
        simp only [List.length_append, List.length_cons, List.length_nil]
        omega
      · rintro k i ⟨a, b⟩ h0 h1 ⟨h2, h3⟩
        dsimp only at h2 h3 ⊢
        simp only [spec_LeastScale.l1]
        rw [if_pos h1, if_pos h0, if_pos h1, if_neg hd, if_pos (by omega), if_pos (by omega), if_pos (by omega)]
      · rintro k i ⟨a, b⟩ _ h1
        dsimp only
        simp only [spec_LeastScale.l1]
        rw [if_neg h1]
      · rw [foldFrom_pair (fun i (t : List Int) => t ++ [wrap64 (Int.tdiv (rd s i) d)]) (fun i (t : List Int) => t ++ [wrap64 (Int.tdiv (rd h i) d)]), foldFrom_append, foldFrom_append]
        rw [show listFrom (fun i => wrap64 (Int.tdiv (rd s i) d)) s.length 0 = parted s d from listFrom_map 0 s (fun x => wrap64 (Int.tdiv x d)), ← hv.2.2.1, show listFrom (fun i => wrap64 (Int.tdiv (rd h i) d)) h.length 0 = parted h d from listFrom_map 0 h (fun x => wrap64 (Int.tdiv x d))]
        exact Ev.now _
    have key : ∀ (m : Nat) (i g : Int), 0 ≤ i → (s.length : Int) - i = m → 0 ≤ g ∧ g ≤ 60 → il s h m i g = gl 0 (s ++ h) → Ev (fun k => spec_LeastScale.l0 k g s (s.length : Int) i s h) (parted s (gl 0 (s ++ h)), parted h (gl 0 (s ++ h)), gl 0 (s ++ h), true) := by
      intro m
      induction m with
      | zero =>
        intro i g h0 hm hg2 e
        have e2 : g = gl 0 (s ++ h) := e
        refine Ev.step (f := fun k => spec_LeastScale.l1 k g s (s.length : Int) 0 s h [] []) (fun k => by simp only [spec_LeastScale.l0]; rw [if_neg (by omega)]) ?_
        rw [e2]
        exact fin
      | succ m ih =>
        intro i g h0 hm hg2 e
        have b := h60 i h0 (by omega)
        have g1 := gcd60 hg2 (show 0 ≤ rd s i ∧ rd s i ≤ 60 by omega)
        have g2 := gcd60 g1 b.2
        refine Ev.step (f := fun k => (spec_veCommon.f k g (rd s i)).bind fun t146 => (spec_veCommon.f k t146 (rd h i)).bind fun t148 => spec_LeastScale.l0 k t148 s (s.length : Int) (i + 1) s h) (fun k => ?_) ?_
        · simp only [spec_LeastScale.l0]
          rw [if_pos (by omega), if_pos h0, if_pos (by omega)]
          congr 1
          funext t
          rw [if_pos (show i < (h.length : Int) by omega), w64 (x := i + 1) (by omega) (by omega)]
        · refine Ev.bind (g := fun k => spec_veCommon.f k g (rd s i)) (common_ev (l0 := spec_veCommon.l0) (fun _ _ _ => rfl) (a := g) (b := rd s i) (by omega) (by omega)) ?_
          try dsimp only
          refine Ev.bind (g := fun k => spec_veCommon.f k (Int.gcd g (rd s i)) (rd h i)) (common_ev (l0 := spec_veCommon.l0) (fun _ _ _ => rfl) (a := Int.gcd g (rd s i)) (b := rd h i) (by omega) (by omega)) ?_
          exact ih (i + 1) _ (by omega) (by omega) g2 e
    exact key s.length 0 0 (by omega) (by omega) (by omega) (il_eq hv.2.2.1)
theorem impl_ev (s h : List Int) (hs : s.length ≤ 1048576) (hh : h.length ≤ 1048576) : Ev (fun k => impl_LeastScale.f k s h) (answer s h) := by
  unfold impl_LeastScale.f answer
  refine Ev.bind (areVessels_ev s h hs hh) ?_
  try dsimp only
  cases hg : goodV s h with
  | false =>
    rw [if_neg (by decide)]
    exact Ev.ifF (by decide) (Ev.now _)
  | true =>
    have hv := goodV_le hg
    obtain ⟨_, hall, hd⟩ := goodV_60 hg
    rw [if_pos rfl]
    refine Ev.ifT rfl ?_
    rw [own_val s h hs hh]
    refine Ev.now_ ?_
    have hD := divs_ev (s ++ h) 0 hall (by omega)
    have hD2 : Ev (fun k => impl_Vessels_divisor.f k s h) (gl 0 (s ++ h)) := by
      unfold impl_Vessels_divisor.f
      exact Ev.ifT (by omega) hD
    refine Ev.bind hD2 ?_
    try dsimp only
    generalize gl 0 (s ++ h) = d at hd
    refine loop_then (σ := List Int × List Int) (l0 := fun k i t => impl_LeastScale.l0 k d (s.length : Int) i t.1 t.2) (fin := fun k t => some (t.1, t.2, d, true))
      (f := fun i t => (t.1.set i.toNat (wrap64 (Int.tdiv (t.1.getD i.toNat 0) d)), t.2.set i.toNat (wrap64 (Int.tdiv (t.2.getD i.toNat 0) d)))) (I := fun i t => t.1.length = s.length ∧ t.2.length = s.length) (n := (s.length : Int)) (by omega) ?_ ?_ ?_ s.length 0 (s, h) (by omega) (by omega) ⟨rfl, hv.2.2.1⟩ ?_
    · rintro i ⟨a, b⟩ h0 h1 ⟨h2, h3⟩
      dsimp only at h2 h3 ⊢
      simp only [List.length_set]
      exact ⟨h2, h3⟩
    · rintro k i ⟨a, b⟩ h0 h1 ⟨h2, h3⟩
      dsimp only at h2 h3 ⊢
      simp only [impl_LeastScale.l0]
      rw [if_pos h1, if_pos h0, if_pos (by omega), if_neg hd, if_pos (by omega)]
      rfl
    · rintro k i ⟨a, b⟩ _ h1
      dsimp only
      simp only [impl_LeastScale.l0]
      rw [if_neg h1]
    · rw [foldFrom_pair (fun i (t : List Int) => t.set i.toNat (wrap64 (Int.tdiv (t.getD i.toNat 0) d))) (fun i (t : List Int) => t.set i.toNat (wrap64 (Int.tdiv (t.getD i.toNat 0) d))), foldFrom_set_all 0 (fun x => wrap64 (Int.tdiv x d)) s]
      rw [show foldFrom (fun i (t : List Int) => t.set i.toNat (wrap64 (Int.tdiv (t.getD i.toNat 0) d))) s.length 0 h = parted h d from by rw [← hv.2.2.1]; exact foldFrom_set_all 0 (fun x => wrap64 (Int.tdiv x d)) h]
      exact Ev.now _
theorem answer_le (s h : List Int) : (answer s h).1.length ≤ 5 ∧ (answer s h).2.1.length ≤ 5 := by
  unfold answer
  split
  · rename_i h2
    have := goodV_le h2
    simp only [parted, List.length_map]
    omega
  · exact ⟨by simp, by simp⟩
theorem FnExactLeastScale : ∀ (l0_0 : (List Int)) (l0_1 : (List Int)), (l0_0.length ≤ maxLen ∧ ∀ y4 ∈ l0_0, (Lit.int .i64 y4).wf = true) → (l0_1.length ≤ maxLen ∧ ∀ y4 ∈ l0_1, (Lit.int .i64 y4).wf = true) → ∃ k, laws_FnExactLeastScale.f k l0_0 l0_1 = some true := by
  intro s h hs hh
  refine Ev.rounds (?_ : Ev (fun k => laws_FnExactLeastScale.f k s h) true)
  unfold laws_FnExactLeastScale.f
  rw [szVessels_val s h hs.1 hh.1 1048576 (by omega) (by omega)]
  by_cases hl : (s.length : Int) + (h.length : Int) ≤ 1048576
  · have ha := answer_le s h
    have hS := spec_ev s h (by omega) (by omega)
    have hI := impl_ev s h (by omega) (by omega)
    generalize answer s h = r at ha hS hI
    obtain ⟨a, b, d, t⟩ := r
    dsimp only at ha
    rw [if_pos hl]
    simp only [Option.bind_some]
    refine Ev.ifF (by omega) ?_
    refine Ev.bind (toVessels_ev s h (by omega) (by omega)) ?_
    try dsimp only
    refine Ev.bind hS ?_
    try dsimp only
    refine Ev.bind (toVessels_ev s h (by omega) (by omega)) ?_
    try dsimp only
    refine Ev.bind hI ?_
    try dsimp only
    refine Ev.bind (eqVessels_ev a b (by omega) (by omega)) ?_
    try dsimp only
    refine Ev.ifT rfl (Ev.ifT rfl (Ev.step (fun k => rfl) ?_))
    refine Ev.ifF (by simp) ?_
    refine Ev.bind (toVessels_ev s h (by omega) (by omega)) ?_
    try dsimp only
    refine Ev.bind (eqVessels_ev s h (by omega) (by omega)) ?_
    try dsimp only
    refine Ev.ifT rfl ?_
    refine Ev.bind (markVessels_ev s h 1 (by omega) (by omega) (by omega) (by omega)) ?_
    try dsimp only
    refine Ev.ifF (by omega) ?_
    refine Ev.bind (eqVessels_ev a b (by omega) (by omega)) ?_
    try dsimp only
    refine Ev.ifT rfl (Ev.ifT rfl (Ev.step (fun k => rfl) ?_))
    refine Ev.ifF (by simp) ?_
    refine Ev.bind (markVessels_ev a b 1 (by omega) (by omega) (by omega) (by omega)) ?_
    try dsimp only
    refine Ev.bind (heldVessels_ev a.length b.length 1 (by omega) (by omega) (by omega) (by omega)) ?_
    try dsimp only
    refine Ev.ifF (by omega) (Ev.ifT rfl ?_)
    refine Ev.bind (toVessels_ev s h (by omega) (by omega)) ?_
    try dsimp only
    refine Ev.bind hI ?_
    try dsimp only
    refine Ev.bind (eqVessels_ev a b (by omega) (by omega)) ?_
    try dsimp only
    refine Ev.ifT rfl (Ev.ifT rfl (Ev.step (fun k => rfl) ?_))
    refine Ev.ifF (by simp) ?_
    refine Ev.bind (heldVessels_ev a.length b.length 1 (by omega) (by omega) (by omega) (by omega)) ?_
    try dsimp only
    exact Ev.ifF (by omega) (Ev.ifT rfl (Ev.now _))
  · rw [if_neg hl]
    simp only [Option.bind_some]
    exact Ev.ifT (by decide) (Ev.now _)

end Go.Proofs.Ytobkbpoamicjgaa.Pure

/- The pure statement of the law FnExactSwapVessels: what its printed functions compute is true for every input. No conditions. -/
import Derived.Test.YtobkbpoamicjgaaPFnExactSwapVesselsx6
import Derived.Test.YtobkbpoamicjgaaPl
namespace Go.Proofs.Ytobkbpoamicjgaa.Pure
open Go.RowKit Go.Proofs.Ytobkbpoamicjgaa.PFnExactSwapVessels Go.Proofs.YtobkbpoamicjgaaW.PrintWords Go.Proofs.YtobkbpoamicjgaaW.PrintLast Go.Proofs.Ytobkbpoamicjgaa.Pl
set_option linter.unusedVariables false
set_option linter.unusedSimpArgs false

theorem within_val (x a b : Int) : impl_within.f x a b = some (decide (a ≤ x ∧ x ≤ b)) := by
  unfold impl_within.f
  by_cases h : a ≤ x <;> simp [h]
theorem in_val (x a b : Int) : spec_l1In.f x a b = some (decide (a ≤ x ∧ x ≤ b)) := within_val x a b
/-- all elements lie in some bounds -/
def allIn (l : List Int) (a b : Int) : Bool := l.all fun x => decide (a ≤ x ∧ x ≤ b)
theorem areWithin_val (l : List Int) (a b : Int) : impl_areWithin.f l a b = some (allIn l a b) := by
  unfold impl_areWithin.f allIn
  congr 1
  rw [List.any_eq_not_all_not, Bool.not_not]
  congr 1
  funext x
  simp
theorem l1All_ev (l : List Int) (a b : Int) (hl : l.length ≤ 1048576) : Ev (fun k => spec_l1All.f k l a b) (allIn l a b) := by
  refine all_ev (l0 := fun k x i => spec_l1All.l0 k a b x (x.length : Int) i) 0 (fun x => decide (a ≤ x ∧ x ≤ b)) (fun k x i h0 => ?_) l (by omega)
  show spec_l1All.l0 (k + 1) a b x (x.length : Int) i = _
  simp only [spec_l1All.l0, in_val, Option.bind_some]
  by_cases hi : i < (x.length : Int)
  · rw [if_pos hi, if_pos h0, if_pos hi, if_pos hi]
    rfl
  · rw [if_neg hi, if_neg hi]
/-- vessels -/
def goodV (s h : List Int) : Bool := decide (1 ≤ (s.length : Int) ∧ (s.length : Int) ≤ 5) && (decide ((h.length : Int) = s.length) && (allIn s 1 60 && allFrom (fun i => decide (0 ≤ rd h i ∧ rd h i ≤ rd s i)) h.length 0))
theorem goodV_le {s h : List Int} (hg : goodV s h = true) : 1 ≤ s.length ∧ s.length ≤ 5 ∧ h.length = s.length ∧ (∀ x ∈ s, 1 ≤ x ∧ x ≤ 60) ∧ ∀ j : Int, 0 ≤ j → j < h.length → 0 ≤ rd h j ∧ rd h j ≤ rd s j := by
  unfold goodV allIn at hg
  simp only [Bool.and_eq_true, decide_eq_true_eq, List.all_eq_true, allFrom_iff] at hg
  exact ⟨by omega, by omega, by omega, hg.2.2.1, fun j h0 h1 => hg.2.2.2 j h0 (by omega)⟩
theorem areVessels_ev (s h : List Int) (hs : s.length ≤ 1048576) (hh : h.length ≤ 1048576) : Ev (fun k => impl_AreVessels.f k s h) (goodV s h) := by
  unfold impl_AreVessels.f goodV
  simp only [within_val, areWithin_val, Option.bind_some]
  by_cases h1 : 1 ≤ (s.length : Int) ∧ (s.length : Int) ≤ 5
  · rw [decide_eq_true h1]
    refine Ev.ifT rfl ?_
    by_cases h2 : (h.length : Int) = s.length
    · rw [decide_eq_true h2]
      refine Ev.ifT h2 ?_
      cases allIn s 1 60 with
      | true =>
        refine Ev.step (f := fun k => impl_AreVessels.l0 k h (h.length : Int) 0 s h) (fun k => by simp only [impl_AreVessels.j0, Bool.not_true, Bool.false_eq_true, if_false]) ?_
        refine allFrom_ev (l0 := fun k i => impl_AreVessels.l0 k h (h.length : Int) i s h) (by omega) (fun k i h0 => ?_)
        show impl_AreVessels.l0 (k + 1) h (h.length : Int) i s h = _
        simp only [impl_AreVessels.l0, within_val, Option.bind_some]
        by_cases hi : i < (h.length : Int)
        · rw [if_pos hi, if_pos h0, if_pos hi, if_pos (by omega), if_pos hi]
        · rw [if_neg hi, if_neg hi]
      | false => exact Ev.step (f := fun _ => some false) (fun k => by simp only [impl_AreVessels.j0, Bool.not_false, if_true]) (Ev.now _)
    · rw [decide_eq_false h2]
      exact Ev.ifF h2 (Ev.step (f := fun _ => some false) (fun k => by simp only [impl_AreVessels.j0, if_true]) (Ev.now _))
  · rw [decide_eq_false h1]
    exact Ev.ifF (by decide) (Ev.step (f := fun _ => some false) (fun k => by simp only [impl_AreVessels.j0, if_true]) (Ev.now _))
theorem veGood_ev (s h : List Int) (hs : s.length ≤ 1048576) (hh : h.length ≤ 1048576) : Ev (fun k => spec_veGood.f k s h) (goodV s h) := by
  unfold spec_veGood.f goodV
  simp only [in_val, Option.bind_some]
  by_cases h1 : 1 ≤ (s.length : Int) ∧ (s.length : Int) ≤ 5
  · rw [decide_eq_true h1]
    refine Ev.ifT rfl ?_
    by_cases h2 : (h.length : Int) = s.length
    · rw [decide_eq_true h2]
      refine Ev.ifT h2 (Ev.bind (l1All_ev s 1 60 hs) ?_)
      try dsimp only
      cases allIn s 1 60 with
      | true =>
        refine Ev.step (f := fun k => spec_veGood.l0 k h (h.length : Int) 0 s h) (fun k => by simp only [spec_veGood.j0, Bool.not_true, Bool.false_eq_true, if_false]) ?_
        refine allFrom_ev (l0 := fun k i => spec_veGood.l0 k h (h.length : Int) i s h) (by omega) (fun k i h0 => ?_)
        show spec_veGood.l0 (k + 1) h (h.length : Int) i s h = _
        simp only [spec_veGood.l0, in_val, Option.bind_some]
        by_cases hi : i < (h.length : Int)
        · rw [if_pos hi, if_pos h0, if_pos hi, if_pos (by omega), if_pos hi]
        · rw [if_neg hi, if_neg hi]
      | false => exact Ev.step (f := fun _ => some false) (fun k => by simp only [spec_veGood.j0, Bool.not_false, if_true]) (Ev.now _)
    · rw [decide_eq_false h2]
      exact Ev.ifF h2 (Ev.step (f := fun _ => some false) (fun k => by simp only [spec_veGood.j0, if_true]) (Ev.now _))
  · rw [decide_eq_false h1]
    exact Ev.ifF (by decide) (Ev.step (f := fun _ => some false) (fun k => by simp only [spec_veGood.j0, if_true]) (Ev.now _))
theorem toIntS_ev (l : List Int) (hl : l.length ≤ 1048576) : Ev (fun k => laws_toIntS.f k l) l := by
  refine Ev.congr (fun k => ?_) (copy_ev 0 (l0 := laws_toIntS.l0) (fun _ _ _ _ => rfl) l 0 (by omega))
  show laws_toIntS.f k l = _
  unfold laws_toIntS.f
  rw [if_pos (by omega), if_pos (by omega)]
theorem eqIntS_ev (l : List Int) (hl : l.length ≤ 1048576) : Ev (fun k => laws_eqIntS.f k l l) true := by
  refine Ev.congr (fun k => ?_) (same_ev (l0 := laws_eqIntS.l0) (fun k x i => by simp only [laws_eqIntS.l0, if_true]) l (by omega))
  show laws_eqIntS.f k l l = _
  unfold laws_eqIntS.f
  rw [if_pos rfl]
theorem szIntS_val (l : List Int) (a : Int) (hl : l.length ≤ maxLen) (ha0 : 0 ≤ a) (ha1 : a ≤ 1048576) : laws_szIntS.f l a = some (if (l.length : Int) ≤ a then a - (l.length : Int) else (-1 : Int)) := by
  simp only [maxLen] at hl
  unfold laws_szIntS.f
  rw [w64 (by omega) (by omega)]
  by_cases h : a - (l.length : Int) < 0
  · rw [if_pos h, if_neg (by omega)]
  · rw [if_neg h, if_pos (by omega)]
theorem szVessels_val (s h : List Int) (hs : s.length ≤ maxLen) (hh : h.length ≤ maxLen) (a : Int) (ha0 : 0 ≤ a) (ha1 : a ≤ 1048576) : laws_szVessels.f s h a = some (if (s.length : Int) + (h.length : Int) ≤ a then a - (s.length : Int) - (h.length : Int) else (-1 : Int)) := by
  unfold laws_szVessels.f
  rw [szIntS_val s a hs ha0 ha1, Option.bind_some]
  by_cases h1 : (s.length : Int) ≤ a
  · rw [if_pos h1, if_neg (by omega), szIntS_val h _ hh (by omega) (by omega), Option.bind_some]
    by_cases h2 : (h.length : Int) ≤ a - (s.length : Int)
    · rw [if_pos h2, if_neg (by omega), if_pos (by omega)]
    · rw [if_neg h2, if_pos (by omega), if_neg (by omega)]
  · rw [if_neg h1, if_pos (by omega), if_neg (by omega)]
theorem toVessels_ev (s h : List Int) (hs : s.length ≤ 1048576) (hh : h.length ≤ 1048576) : Ev (fun k => laws_toVessels.f k s h) (s, h) := by
  unfold laws_toVessels.f
  refine Ev.bind (toIntS_ev s hs) ?_
  try dsimp only
  refine Ev.bind (toIntS_ev h hh) ?_
  exact Ev.now _
theorem eqVessels_ev (s h : List Int) (hs : s.length ≤ 1048576) (hh : h.length ≤ 1048576) : Ev (fun k => laws_eqVessels.f k s h s h) true := by
  unfold laws_eqVessels.f
  refine Ev.bind (eqIntS_ev s hs) ?_
  try dsimp only
  refine Ev.ifT rfl (Ev.bind (eqIntS_ev h hh) ?_)
  exact Ev.ifT rfl (Ev.now _)
theorem markIntS_ev (l : List Int) (q : Int) (hq0 : 0 ≤ q) (hq1 : q ≤ 100000000) (hl : l.length ≤ 1048576) : Ev (fun k => laws_markIntS.f k l q) (q + (l.length : Int), marks q l.length) := by
  refine mark_ev (l0 := laws_markIntS.l0) (fun k x q i h0 => ?_) q hq0 (by omega) l (by omega)
  simp only [laws_markIntS.l0, if_pos h0]
theorem markVessels_ev (s h : List Int) (q : Int) (hq0 : 0 ≤ q) (hq1 : q + (s.length : Int) ≤ 100000000) (hs : s.length ≤ 1048576) (hh : h.length ≤ 1048576) : Ev (fun k => laws_markVessels.f k s h q) (q + (s.length : Int) + (h.length : Int), marks q s.length, marks (q + (s.length : Int)) h.length) := by
  unfold laws_markVessels.f
  refine Ev.bind (markIntS_ev s q hq0 (by omega) hs) ?_
  try dsimp only
  refine Ev.bind (markIntS_ev h (q + (s.length : Int)) (by omega) hq1 hh) ?_
  exact Ev.now _
theorem heldIntS_ev (q : Int) (n : Nat) (hq0 : 0 ≤ q) (hq1 : q ≤ 100000000) (hl : n ≤ 1048576) : Ev (fun k => laws_heldIntS.f k (marks q n) q) (q + (n : Int)) := by
  refine held_ev (l0 := laws_heldIntS.l0) (fun k x q i h0 h1 h2 => ?_) (fun k x q i h1 => ?_) q hq0 (by omega) n (by omega)
  · simp only [laws_heldIntS.l0]
    rw [if_pos h1, if_pos h0, if_pos (show rd x i = q from h2)]
  · simp only [laws_heldIntS.l0]
    rw [if_neg h1]
theorem heldVessels_ev (n m : Nat) (q : Int) (hq0 : 0 ≤ q) (hq1 : q + (n : Int) ≤ 100000000) (hs : n ≤ 1048576) (hh : m ≤ 1048576) : Ev (fun k => laws_heldVessels.f k (marks q n) (marks (q + (n : Int)) m) q) (q + (n : Int) + (m : Int)) := by
  unfold laws_heldVessels.f
  refine Ev.bind (heldIntS_ev q n hq0 (by omega) hs) ?_
  try dsimp only
  refine Ev.ifF (by omega) (Ev.bind (heldIntS_ev (q + (n : Int)) m (by omega) hq1 hh) ?_)
  exact Ev.ifF (by omega) (Ev.now _)
theorem clone_val (l : List Int) (hl : l.length ≤ 1048576) : slices_Clone_int_int.f l = some l := by
  unfold slices_Clone_int_int.f
  rw [if_pos (by omega)]
theorem own_val (s h : List Int) (hs : s.length ≤ 1048576) (hh : h.length ≤ 1048576) : impl_Vessels_own.f s h = some (s, h) := by
  unfold impl_Vessels_own.f
  rw [clone_val s hs, Option.bind_some, clone_val h hh, Option.bind_some]
theorem veOne_ev (s h : List Int) (i : Int) (hs : s.length ≤ 1048576) (hh : h.length ≤ 1048576) : Ev (fun k => spec_veOne.f k s h i) (goodV s h && decide (0 ≤ i ∧ i ≤ (s.length : Int) - 1)) := by
  unfold spec_veOne.f
  refine Ev.bind (veGood_ev s h hs hh) ?_
  try dsimp only
  cases goodV s h with
  | true =>
    rw [w64 (x := (s.length : Int) - 1) (by omega) (by omega), in_val]
    exact Ev.ifT rfl (Ev.now _)
  | false => exact Ev.ifF (by decide) (Ev.now _)
theorem isVessel_ev (s h : List Int) (i : Int) (hs : s.length ≤ 1048576) (hh : h.length ≤ 1048576) : Ev (fun k => impl_isVessel.f k s h i) (goodV s h && decide (0 ≤ i ∧ i ≤ (s.length : Int) - 1)) := by
  unfold impl_isVessel.f
  refine Ev.bind (areVessels_ev s h hs hh) ?_
  try dsimp only
  cases goodV s h with
  | true =>
    rw [w64 (x := (s.length : Int) - 1) (by omega) (by omega), within_val]
    exact Ev.ifT rfl (Ev.now _)
  | false => exact Ev.ifF (by decide) (Ev.now _)
theorem l1Own_val (l : List Int) (hl : l.length ≤ 1048576) : spec_l1Own.f l = some l := by
  unfold spec_l1Own.f
  simp only [Option.bind_some, List.length_nil, List.nil_append]
  rw [if_pos (by omega)]
/-- the answer -/
def answer (s h : List Int) (i j : Int) : List Int × List Int × Bool :=
  if goodV s h = true ∧ (0 ≤ i ∧ i ≤ (s.length : Int) - 1) ∧ (0 ≤ j ∧ j ≤ (s.length : Int) - 1) then (swp s i j, swp h i j, true) else ([], [], false)
theorem spec_ev (s h : List Int) (i j : Int) (hs : s.length ≤ 1048576) (hh : h.length ≤ 1048576) : Ev (fun k => spec_SwapVessels.f k s h i j) (answer s h i j) := by
  unfold spec_SwapVessels.f answer
  refine Ev.bind (veOne_ev s h i hs hh) ?_
  try dsimp only
  by_cases h1 : goodV s h = true ∧ (0 ≤ i ∧ i ≤ (s.length : Int) - 1)
  · have hv := goodV_le h1.1
    rw [h1.1, decide_eq_true h1.2]
    refine Ev.ifT rfl ?_
    refine Ev.bind (veOne_ev s h j hs hh) ?_
    try dsimp only
    rw [h1.1]
    by_cases h2 : 0 ≤ j ∧ j ≤ (s.length : Int) - 1
    · rw [decide_eq_true h2, if_pos ⟨by trivial, h1.2, h2⟩]
      refine Ev.step (f := fun _ => some (swp s i j, swp h i j, true)) (fun k => ?_) (Ev.now _)
      have e := hv.2.2.1
      simp only [spec_SwapVessels.j0, Bool.and_true, Bool.not_true, Bool.false_eq_true, if_false, l1Own_val s hs, l1Own_val h hh, Option.bind_some]
      rw [if_pos (by omega), if_pos (by omega), if_pos (by omega), if_pos (by omega), if_pos (by omega), if_pos (by omega), if_pos (by omega), if_pos (by omega), if_pos (by omega), if_pos (by omega)]
      rfl
    · rw [decide_eq_false h2, if_neg (fun hx => h2 hx.2.2)]
      exact Ev.step (f := fun _ => some ([], [], false)) (fun k => by simp only [spec_SwapVessels.j0, Bool.and_false, Bool.not_false, if_true]) (Ev.now _)
  · rw [if_neg (fun hx => h1 ⟨hx.1, hx.2.1⟩)]
    have e : (goodV s h && decide (0 ≤ i ∧ i ≤ (s.length : Int) - 1)) = false := by
      cases hg : goodV s h with
      | false => rfl
      | true => rw [decide_eq_false (fun hx => h1 ⟨hg, hx⟩)]; rfl
    rw [e]
    exact Ev.ifF (by decide) (Ev.step (f := fun _ => some ([], [], false)) (fun k => by simp only [spec_SwapVessels.j0, if_true]) (Ev.now _))
theorem impl_ev (s h : List Int) (i j : Int) (hs : s.length ≤ 1048576) (hh : h.length ≤ 1048576) : Ev (fun k => impl_SwapVessels.f k s h i j) (answer s h i j) := by
  unfold impl_SwapVessels.f answer
  refine Ev.bind (isVessel_ev s h i hs hh) ?_
  try dsimp only
  by_cases h1 : goodV s h = true ∧ (0 ≤ i ∧ i ≤ (s.length : Int) - 1)
  · have hv := goodV_le h1.1
    rw [h1.1, decide_eq_true h1.2]
    refine Ev.ifT rfl ?_
    refine Ev.bind (isVessel_ev s h j hs hh) ?_
    try dsimp only
    rw [h1.1]
    by_cases h2 : 0 ≤ j ∧ j ≤ (s.length : Int) - 1
    · have e := hv.2.2.1
      rw [decide_eq_true h2]
      refine Ev.ifT rfl ?_
      rw [own_val s h hs hh, Option.bind_some, if_pos ⟨⟨by omega, by dsimp only; omega, by dsimp only; omega⟩, by omega, by dsimp only; omega, by dsimp only; omega⟩, if_pos ⟨by trivial, h1.2, h2⟩]
      exact Ev.now _
    · rw [decide_eq_false h2]
      refine Ev.ifF (by decide) ?_
      rw [if_neg (fun hx => h2 hx.2.2)]
      exact Ev.now _
  · rw [if_neg (fun hx => h1 ⟨hx.1, hx.2.1⟩)]
    have e : (goodV s h && decide (0 ≤ i ∧ i ≤ (s.length : Int) - 1)) = false := by
      cases hg : goodV s h with
      | false => rfl
      | true => rw [decide_eq_false (fun hx => h1 ⟨hg, hx⟩)]; rfl
    rw [e]
    exact Ev.ifF (by decide) (Ev.now _)
theorem answer_le (s h : List Int) (i j : Int) : (answer s h i j).1.length ≤ 5 ∧ (answer s h i j).2.1.length ≤ 5 := by
  unfold answer
  split
  · rename_i h2
    have := goodV_le h2.1
    simp only [swp, List.length_set]
    exact ⟨this.2.1, by omega⟩
  · exact ⟨by simp, by simp⟩
theorem FnExactSwapVessels : ∀ (l0_0 : (List Int)) (l0_1 : (List Int)) (a1 : Int) (a2 : Int), (l0_0.length ≤ maxLen ∧ ∀ y4 ∈ l0_0, (Lit.int .i64 y4).wf = true) → (l0_1.length ≤ maxLen ∧ ∀ y4 ∈ l0_1, (Lit.int .i64 y4).wf = true) → ((Lit.int .i64 a1).wf = true) → ((Lit.int .i64 a2).wf = true) → ∃ k, laws_FnExactSwapVessels.f k l0_0 l0_1 a1 a2 = some true := by
  intro s h i j hs hh _ _
  refine Ev.rounds (?_ : Ev (fun k => laws_FnExactSwapVessels.f k s h i j) true)
  unfold laws_FnExactSwapVessels.f
  rw [szVessels_val s h hs.1 hh.1 1048576 (by omega) (by omega)]
  by_cases hl : (s.length : Int) + (h.length : Int) ≤ 1048576
  · have ha := answer_le s h i j
    have hS := spec_ev s h i j (by omega) (by omega)
    have hI := impl_ev s h i j (by omega) (by omega)
    generalize answer s h i j = r at ha hS hI
    obtain ⟨a, b, t⟩ := r
    dsimp only at ha
    rw [if_pos hl]
    simp only [Option.bind_some]
    refine Ev.ifF (by omega) ?_
    refine Ev.bind (toVessels_ev s h (by omega) (by omega)) ?_
    try dsimp only
    refine Ev.bind hS ?_
    try dsimp only
    refine Ev.bind (toVessels_ev s h (by omega) (by omega)) ?_
    try dsimp only
    refine Ev.bind hI ?_
    try dsimp only
    refine Ev.bind (eqVessels_ev a b (by omega) (by omega)) ?_
    try dsimp only
    refine Ev.ifT rfl (Ev.step (fun k => rfl) ?_)
    refine Ev.ifF (by simp) ?_
    refine Ev.bind (toVessels_ev s h (by omega) (by omega)) ?_
    try dsimp only
    refine Ev.bind (eqVessels_ev s h (by omega) (by omega)) ?_
    try dsimp only
    refine Ev.ifT rfl ?_
    refine Ev.bind (markVessels_ev s h 1 (by omega) (by omega) (by omega) (by omega)) ?_
    try dsimp only
    refine Ev.ifF (by omega) ?_
    refine Ev.bind (eqVessels_ev a b (by omega) (by omega)) ?_
    try dsimp only
    refine Ev.ifT rfl (Ev.step (fun k => rfl) ?_)
    refine Ev.ifF (by simp) ?_
    refine Ev.bind (markVessels_ev a b 1 (by omega) (by omega) (by omega) (by omega)) ?_
    try dsimp only
    refine Ev.bind (heldVessels_ev a.length b.length 1 (by omega) (by omega) (by omega) (by omega)) ?_
    try dsimp only
    refine Ev.ifF (by omega) (Ev.ifT rfl ?_)
    refine Ev.bind (toVessels_ev s h (by omega) (by omega)) ?_
    try dsimp only
    refine Ev.bind hI ?_
    try dsimp only
    refine Ev.bind (eqVessels_ev a b (by omega) (by omega)) ?_
    try dsimp only
    refine Ev.ifT rfl (Ev.step (fun k => rfl) ?_)
    refine Ev.ifF (by simp) ?_
    refine Ev.bind (heldVessels_ev a.length b.length 1 (by omega) (by omega) (by omega) (by omega)) ?_
    try dsimp only
    exact Ev.ifF (by omega) (Ev.ifT rfl (Ev.now _))
  · rw [if_neg hl]
    simp only [Option.bind_some]
    exact Ev.ifT (by decide) (Ev.now _)

end Go.Proofs.Ytobkbpoamicjgaa.Pure

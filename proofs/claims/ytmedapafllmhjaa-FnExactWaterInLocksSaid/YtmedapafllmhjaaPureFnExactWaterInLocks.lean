/- The pure statement of the law FnExactWaterInLocks: what its printed functions compute is true for every input. No conditions. -/
import Derived.Test.YtmedapafllmhjaaPFnExactWaterInLocksx3
import Derived.Test.YtmedapafllmhjaaPl
namespace Go.Proofs.Ytmedapafllmhjaa.Pure
open Go.RowKit Go.Proofs.Ytmedapafllmhjaa.PFnExactWaterInLocks Go.Proofs.YtmedapafllmhjaaW.PrintWords Go.Proofs.YtmedapafllmhjaaW.PrintLast Go.Proofs.Ytmedapafllmhjaa.Pl
set_option linter.unusedVariables false
set_option linter.unusedSimpArgs false

theorem within_val (x a b : Int) : impl_within.f x a b = some (decide (a ≤ x ∧ x ≤ b)) := by
  unfold impl_within.f
  by_cases h : a ≤ x <;> simp [h]
theorem in_val (x a b : Int) : spec_l1In.f x a b = some (decide (a ≤ x ∧ x ≤ b)) := within_val x a b
theorem toIntS_ev (l : List Int) (hl : l.length ≤ 1048576) : Ev (fun k => laws_toIntS.f k l) l := by
  refine Ev.congr (fun k => ?_) (copy_ev 0 (l0 := laws_toIntS.l0) (fun _ _ _ _ => rfl) l 0 (by omega))
  show laws_toIntS.f k l = _
  unfold laws_toIntS.f
  rw [if_pos (by omega), if_pos (by omega)]
theorem eqIntS_ev (l : List Int) (hl : l.length ≤ 1048576) : Ev (fun k => laws_eqIntS.f k l l) true := by
  refine Ev.congr (fun k => ?_) (same_ev (l0 := laws_eqIntS.l0) (fun k x i => by simp only [laws_eqIntS.l0, if_true]) l (by omega))
  show laws_eqIntS.f k l l = _
  unfold laws_eqIntS.f
  rw [if_pos rfl]
/-- all elements lie in some bounds -/
def allIn (l : List Int) (a b : Int) : Bool := l.all fun x => decide (a ≤ x ∧ x ≤ b)
theorem areWithin_val (l : List Int) (a b : Int) : impl_areWithin.f l a b = some (allIn l a b) := by
  unfold impl_areWithin.f allIn
  congr 1
  rw [List.any_eq_not_all_not, Bool.not_not]
  congr 1
  funext x
  simp
theorem l1All_ev (l : List Int) (a b : Int) (hl : l.length ≤ 1048576) : Ev (fun k => spec_l1All.f k l a b) (allIn l a b) := by
  refine all_ev (l0 := fun k x i => spec_l1All.l0 k a b x (x.length : Int) i) 0 (fun x => decide (a ≤ x ∧ x ≤ b)) (fun k x i h0 => ?_) l (by omega)
  show spec_l1All.l0 (k + 1) a b x (x.length : Int) i = _
  simp only [spec_l1All.l0, in_val, Option.bind_some]
  by_cases hi : i < (x.length : Int)
  · rw [if_pos hi, if_pos h0, if_pos hi, if_pos hi]
    rfl
  · rw [if_neg hi, if_neg hi]
theorem toBoolS_ev (l : List Bool) (hl : l.length ≤ 1048576) : Ev (fun k => laws_toBoolS.f k l) l := by
  refine Ev.congr (fun k => ?_) (copy_ev false (l0 := laws_toBoolS.l0) (fun _ _ _ _ => rfl) l false (by omega))
  show laws_toBoolS.f k l = _
  unfold laws_toBoolS.f
  rw [if_pos (by omega), if_pos (by omega)]
theorem eqBoolS_ev (l : List Bool) (hl : l.length ≤ 1048576) : Ev (fun k => laws_eqBoolS.f k l l) true := by
  refine Ev.congr (fun k => ?_) (same_ev (l0 := laws_eqBoolS.l0) (fun k x i => by simp only [laws_eqBoolS.l0, bne_self_eq_false, Bool.false_eq_true, if_false]) l (by omega))
  show laws_eqBoolS.f k l l = _
  unfold laws_eqBoolS.f
  rw [if_pos rfl]
theorem szFlight_val (l : List Int) (m : List Bool) (hl : l.length ≤ maxLen) (hm : m.length ≤ maxLen) :
    laws_szFlight.f l m 1048576 = some (if (l.length : Int) + m.length ≤ 1048576 then ((1048576 : Int) - (l.length : Int) - (m.length : Int)) else (-1 : Int)) := by
  simp only [maxLen] at hl hm
  unfold laws_szFlight.f laws_szIntS.f laws_szBoolS.f
  rw [w64 (x := 1048576 - (l.length : Int)) (by omega) (by omega)]
  by_cases h : (1048576 : Int) - l.length < 0
  · rw [if_pos h, Option.bind_some, if_pos (by omega), if_neg (by omega)]
  · rw [if_neg h, Option.bind_some, if_neg h, w64 (by omega) (by omega)]
    by_cases h2 : (1048576 : Int) - l.length - m.length < 0
    · rw [if_pos h2, Option.bind_some, if_pos (by omega), if_neg (by omega)]
    · rw [if_neg h2, Option.bind_some, if_neg h2, if_pos (by omega)]
theorem toFlight_ev (l : List Int) (m : List Bool) (hl : l.length ≤ 1048576) (hm : m.length ≤ 1048576) : Ev (fun k => laws_toFlight.f k l m) (l, m) := by
  unfold laws_toFlight.f
  refine Ev.bind (toIntS_ev l hl) ?_
  try dsimp only
  refine Ev.bind (toBoolS_ev m hm) ?_
  exact Ev.now _
theorem eqFlight_ev (l : List Int) (m : List Bool) (hl : l.length ≤ 1048576) (hm : m.length ≤ 1048576) : Ev (fun k => laws_eqFlight.f k l m l m) true := by
  unfold laws_eqFlight.f
  refine Ev.bind (eqIntS_ev l hl) ?_
  try dsimp only
  refine Ev.ifT rfl (Ev.bind (eqBoolS_ev m hm) ?_)
  try dsimp only
  exact Ev.ifT rfl (Ev.now _)
/-- a flight -/
def goodF (l : List Int) (m : List Bool) : Bool := decide (1 ≤ (l.length : Int) ∧ (l.length : Int) ≤ 6) && (decide ((m.length : Int) = l.length) && allIn l 1 20)
theorem isFlight_val (l : List Int) (m : List Bool) : impl_IsFlight.f l m = some (goodF l m) := by
  unfold impl_IsFlight.f goodF
  rw [within_val, Option.bind_some, areWithin_val, Option.bind_some]
  by_cases h1 : 1 ≤ (l.length : Int) ∧ (l.length : Int) ≤ 6
  · rw [decide_eq_true h1, if_pos rfl]
    by_cases h2 : (m.length : Int) = l.length
    · rw [if_pos h2, decide_eq_true h2]; rfl
    · rw [if_neg h2, decide_eq_false h2]; rfl
  · rw [decide_eq_false h1, if_neg (by decide)]; rfl
theorem loGood_ev (l : List Int) (m : List Bool) (hl : l.length ≤ 1048576) : Ev (fun k => spec_loGood.f k l m) (goodF l m) := by
  unfold spec_loGood.f goodF
  simp only [in_val, Option.bind_some]
  by_cases h1 : 1 ≤ (l.length : Int) ∧ (l.length : Int) ≤ 6
  · rw [decide_eq_true h1]
    refine Ev.ifT rfl ?_
    by_cases h2 : (m.length : Int) = l.length
    · rw [decide_eq_true h2]
      refine Ev.ifT h2 (Ev.bind (l1All_ev l 1 20 hl) ?_)
      exact Ev.now _
    · rw [decide_eq_false h2]
      exact Ev.ifF h2 (Ev.now _)
  · rw [decide_eq_false h1]
    exact Ev.ifF (by decide) (Ev.now _)
theorem goodF_le {l : List Int} {m : List Bool} (h : goodF l m = true) : 1 ≤ l.length ∧ l.length ≤ 6 ∧ m.length = l.length ∧ ∀ x ∈ l, 1 ≤ x ∧ x ≤ 20 := by
  unfold goodF allIn at h
  simp only [Bool.and_eq_true, decide_eq_true_eq, List.all_eq_true] at h
  exact ⟨by omega, by omega, by omega, h.2.2⟩
theorem flight_law {f : Nat → List Int → List Bool → Option Bool} {j0 : Nat → Bool → List Int → List Bool → List Int → List Bool → Option Bool} {S I : Nat → List Int → List Bool → Option (Int × Bool)}
    (hj : ∀ k x a b c d, j0 (k + 1) x a b c d = if x = true then some false else ((laws_toFlight.f k a b).bind fun bt168 => ((laws_eqFlight.f k c d bt168.1 bt168.2).bind fun t174 => if t174 = true then some true else some false)))
    (hf : ∀ k l m, f k l m = (laws_szFlight.f l m 1048576).bind fun t150 => if t150 < 0 then some true else ((laws_toFlight.f k l m).bind fun bt151 => ((S k bt151.1 bt151.2).bind fun bt157 => ((laws_toFlight.f k l m).bind fun bt159 => ((I k bt159.1 bt159.2).bind fun bt166 => if bt166.1 = bt157.1 then j0 k (bt166.2 != bt157.2) l m bt159.1 bt159.2 else j0 k true l m bt159.1 bt159.2)))))
    (hr : ∀ l m, l.length ≤ 1048576 → m.length ≤ 1048576 → ∃ r, Ev (fun k => S k l m) r ∧ Ev (fun k => I k l m) r)
    (l : List Int) (m : List Bool) (hl : l.length ≤ maxLen) (hm : m.length ≤ maxLen) : ∃ k, f k l m = some true := by
  refine Ev.rounds (?_ : Ev (fun k => f k l m) true)
  refine Ev.congr (fun k => hf k l m) ?_
  rw [szFlight_val l m hl hm]
  by_cases h : (l.length : Int) + m.length ≤ 1048576
  · obtain ⟨r, hS, hI⟩ := hr l m (by omega) (by omega)
    rw [if_pos h]
    simp only [Option.bind_some]
    refine Ev.ifF (by omega) ?_
    refine Ev.bind (toFlight_ev l m (by omega) (by omega)) ?_
    try dsimp only
    refine Ev.bind hS ?_
    try dsimp only
    refine Ev.bind (toFlight_ev l m (by omega) (by omega)) ?_
    try dsimp only
    refine Ev.bind hI ?_
    try dsimp only
    refine Ev.ifT rfl ?_
    refine Ev.step (fun k => hj k _ _ _ _ _) ?_
    refine Ev.ifF (by simp) ?_
    refine Ev.bind (toFlight_ev l m (by omega) (by omega)) ?_
    try dsimp only
    refine Ev.bind (eqFlight_ev l m (by omega) (by omega)) ?_
    exact Ev.ifT rfl (Ev.now _)
  · rw [if_neg h]
    simp only [Option.bind_some]
    exact Ev.ifT (by decide) (Ev.now _)
/-- the sum from place i on -/
def heldFrom (l : List Int) (m : List Bool) : Nat → Int → Int → Int
  | 0, _, s => s
  | n + 1, i, s => heldFrom l m n (i + 1) (if rdOf false m i = true then wrap64 (s + rd l i) else s)
theorem specHeld_ev (l : List Int) (m : List Bool) (hl : l.length = m.length) (hm : m.length ≤ 1048576) (n : Nat) : ∀ (i s : Int), 0 ≤ i → (m.length : Int) - i = n → Ev (fun k => spec_loHeld.l0 k s m (m.length : Int) i l m) (heldFrom l m n i s) := by
  induction n with
  | zero =>
    intro i s h0 hi
    exact Ev.step (f := fun _ => some s) (fun k => by simp only [spec_loHeld.l0]; rw [if_neg (by omega)]) (Ev.now _)
  | succ n ih =>
    intro i s h0 hi
    refine Ev.step (f := fun k => spec_loHeld.l0 k (if rdOf false m i = true then wrap64 (s + rd l i) else s) m (m.length : Int) (i + 1) l m) (fun k => ?_) (ih (i + 1) _ (by omega) (by omega))
    simp only [spec_loHeld.l0]
    rw [if_pos (by omega), if_pos h0, if_pos (by omega), w64 (x := i + 1) (by omega) (by omega)]
    by_cases c : rdOf false m i = true
    · rw [if_pos c, if_pos c, if_pos (by omega)]
    · rw [if_neg c, if_neg c]
theorem implHeld_ev (l : List Int) (m : List Bool) (hl : l.length = m.length) (hm : m.length ≤ 1048576) (n : Nat) : ∀ (i s : Int), 0 ≤ i → (m.length : Int) - i = n → Ev (fun k => impl_WaterInLocks.l0 k s l (l.length : Int) i l m) (heldFrom l m n i s, true) := by
  induction n with
  | zero =>
    intro i s h0 hi
    exact Ev.step (f := fun _ => some (s, true)) (fun k => by simp only [impl_WaterInLocks.l0]; rw [if_neg (by omega)]) (Ev.now _)
  | succ n ih =>
    intro i s h0 hi
    refine Ev.step (f := fun k => impl_WaterInLocks.l0 k (if rdOf false m i = true then wrap64 (s + rd l i) else s) l (l.length : Int) (i + 1) l m) (fun k => ?_) (ih (i + 1) _ (by omega) (by omega))
    simp only [impl_WaterInLocks.l0]
    rw [if_pos (by omega), if_pos h0, if_pos (by omega), if_pos (by omega), w64 (x := i + 1) (by omega) (by omega)]
    by_cases c : rdOf false m i = true
    · rw [if_pos c, if_pos c]
    · rw [if_neg c, if_neg c]
theorem FnExactWaterInLocks : ∀ (l0_0 : (List Int)) (l0_1 : (List Bool)), (l0_0.length ≤ maxLen ∧ ∀ y4 ∈ l0_0, (Lit.int .i64 y4).wf = true) → (l0_1.length ≤ maxLen ∧ ∀ y4 ∈ l0_1, True) → ∃ k, laws_FnExactWaterInLocks.f k l0_0 l0_1 = some true := by
  intro l m hl hm
  refine flight_law (f := laws_FnExactWaterInLocks.f) (j0 := laws_FnExactWaterInLocks.j0) (S := spec_WaterInLocks.f) (I := impl_WaterInLocks.f) (fun _ _ _ _ _ _ => rfl) (fun _ _ _ => rfl) (fun l m h1 h2 => ?_) l m hl.1 hm.1
  refine ⟨if goodF l m = true then (heldFrom l m m.length 0 0, true) else (0, false), ?_, ?_⟩
  · unfold spec_WaterInLocks.f
    refine Ev.bind (loGood_ev l m h1) ?_
    try dsimp only
    cases hg : goodF l m with
    | true =>
      have := goodF_le hg
      exact Ev.ifT rfl (Ev.bind (specHeld_ev l m (by omega) h2 m.length 0 0 (by omega) (by omega)) (Ev.now _))
    | false => exact Ev.ifF (by decide) (Ev.now _)
  · unfold impl_WaterInLocks.f
    simp only [isFlight_val, Option.bind_some]
    cases hg : goodF l m with
    | true =>
      have := goodF_le hg
      exact Ev.ifT rfl (implHeld_ev l m (by omega) h2 m.length 0 0 (by omega) (by omega))
    | false => exact Ev.ifF (by decide) (Ev.now _)

end Go.Proofs.Ytmedapafllmhjaa.Pure

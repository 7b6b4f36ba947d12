/- The pure statement of the law FnExactMixedShare: what its printed functions compute is true for every input. No conditions. -/
import Derived.Test.YtminippcikenfaaPFnExactMixedSharex9
import Derived.Test.YtminippcikenfaaPl
namespace Go.Proofs.Ytminippcikenfaa.Pure
open Go.RowKit Go.Proofs.Ytminippcikenfaa.PFnExactMixedShare Go.Proofs.YtminippcikenfaaW.PrintWords Go.Proofs.YtminippcikenfaaW.PrintLast Go.Proofs.Ytminippcikenfaa.Pl
set_option linter.unusedVariables false
set_option linter.unusedSimpArgs false

theorem within_val (x a b : Int) : impl_within.f x a b = some (decide (a ≤ x ∧ x ≤ b)) := by
  unfold impl_within.f
  by_cases h : a ≤ x <;> simp [h]
theorem in_val (x a b : Int) : spec_l1In.f x a b = some (decide (a ≤ x ∧ x ≤ b)) := within_val x a b
/-- all elements lie in some bounds -/
def allIn (l : List Int) (a b : Int) : Bool := l.all fun x => decide (a ≤ x ∧ x ≤ b)
theorem areWithin_val (l : List Int) (a b : Int) : impl_areWithin.f l a b = some (allIn l a b) := by
  unfold impl_areWithin.f allIn
  congr 1
  rw [List.any_eq_not_all_not, Bool.not_not]
  congr 1
  funext x
  simp
theorem l1All_ev (l : List Int) (a b : Int) (hl : l.length ≤ 1048576) : Ev (fun k => spec_l1All.f k l a b) (allIn l a b) := by
  refine all_ev (l0 := fun k x i => spec_l1All.l0 k a b x (x.length : Int) i) 0 (fun x => decide (a ≤ x ∧ x ≤ b)) (fun k x i h0 => ?_) l (by omega)
  show spec_l1All.l0 (k + 1) a b x (x.length : Int) i = _
  simp only [spec_l1All.l0, in_val, Option.bind_some]
  by_cases hi : i < (x.length : Int)
  · rw [if_pos hi, if_pos h0, if_pos hi, if_pos hi]
    rfl
  · rw [if_neg hi, if_neg hi]
/-- vessels -/
def goodV (s h : List Int) : Bool := decide (1 ≤ (s.length : Int) ∧ (s.length : Int) ≤ 5) && (decide ((h.length : Int) = s.length) && (allIn s 1 60 && allFrom (fun i => decide (0 ≤ rd h i ∧ rd h i ≤ rd s i)) h.length 0))
theorem goodV_le {s h : List Int} (hg : goodV s h = true) : 1 ≤ s.length ∧ s.length ≤ 5 ∧ h.length = s.length ∧ (∀ x ∈ s, 1 ≤ x ∧ x ≤ 60) ∧ ∀ j : Int, 0 ≤ j → j < h.length → 0 ≤ rd h j ∧ rd h j ≤ rd s j := by
  unfold goodV allIn at hg
  simp only [Bool.and_eq_true, decide_eq_true_eq, List.all_eq_true, allFrom_iff] at hg
  exact ⟨by omega, by omega, by omega, hg.2.2.1, fun j h0 h1 => hg.2.2.2 j h0 (by omega)⟩
theorem areVessels_ev (s h : List Int) (hs : s.length ≤ 1048576) (hh : h.length ≤ 1048576) : Ev (fun k => impl_AreVessels.f k s h) (goodV s h) := by
  unfold impl_AreVessels.f goodV
  simp only [within_val, areWithin_val, Option.bind_some]
  by_cases h1 : 1 ≤ (s.length : Int) ∧ (s.length : Int) ≤ 5
  · rw [decide_eq_true h1]
    refine Ev.ifT rfl ?_
    by_cases h2 : (h.length : Int) = s.length
    · rw [decide_eq_true h2]
      refine Ev.ifT h2 ?_
      cases allIn s 1 60 with
      | true =>
        refine Ev.step (f := fun k => impl_AreVessels.l0 k h (h.length : Int) 0 s h) (fun k => by simp only [impl_AreVessels.j0, Bool.not_true, Bool.false_eq_true, if_false]) ?_
        refine allFrom_ev (l0 := fun k i => impl_AreVessels.l0 k h (h.length : Int) i s h) (by omega) (fun k i h0 => ?_)
        show impl_AreVessels.l0 (k + 1) h (h.length : Int) i s h = _
        simp only [impl_AreVessels.l0, within_val, Option.bind_some]
        by_cases hi : i < (h.length : Int)
        · rw [if_pos hi, if_pos h0, if_pos hi, if_pos (by omega), if_pos hi]
        · rw [if_neg hi, if_neg hi]
      | false => exact Ev.step (f := fun _ => some false) (fun k => by simp only [impl_AreVessels.j0, Bool.not_false, if_true]) (Ev.now _)
    · rw [decide_eq_false h2]
      exact Ev.ifF h2 (Ev.step (f := fun _ => some false) (fun k => by simp only [impl_AreVessels.j0, if_true]) (Ev.now _))
  · rw [decide_eq_false h1]
    exact Ev.ifF (by decide) (Ev.step (f := fun _ => some false) (fun k => by simp only [impl_AreVessels.j0, if_true]) (Ev.now _))
theorem veGood_ev (s h : List Int) (hs : s.length ≤ 1048576) (hh : h.length ≤ 1048576) : Ev (fun k => spec_veGood.f k s h) (goodV s h) := by
  unfold spec_veGood.f goodV
  simp only [in_val, Option.bind_some]
  by_cases h1 : 1 ≤ (s.length : Int) ∧ (s.length : Int) ≤ 5
  · rw [decide_eq_true h1]
    refine Ev.ifT rfl ?_
    by_cases h2 : (h.length : Int) = s.length
    · rw [decide_eq_true h2]
      refine Ev.ifT h2 (Ev.bind (l1All_ev s 1 60 hs) ?_)
      try dsimp only
      cases allIn s 1 60 with
      | true =>
        refine Ev.step (f := fun k => spec_veGood.l0 k h (h.length : Int) 0 s h) (fun k => by simp only [spec_veGood.j0, Bool.not_true, Bool.false_eq_true, if_false]) ?_
        refine allFrom_ev (l0 := fun k i => spec_veGood.l0 k h (h.length : Int) i s h) (by omega) (fun k i h0 => ?_)
        show spec_veGood.l0 (k + 1) h (h.length : Int) i s h = _
        simp only [spec_veGood.l0, in_val, Option.bind_some]
        by_cases hi : i < (h.length : Int)
        · rw [if_pos hi, if_pos h0, if_pos hi, if_pos (by omega), if_pos hi]
        · rw [if_neg hi, if_neg hi]
      | false => exact Ev.step (f := fun _ => some false) (fun k => by simp only [spec_veGood.j0, Bool.not_false, if_true]) (Ev.now _)
    · rw [decide_eq_false h2]
      exact Ev.ifF h2 (Ev.step (f := fun _ => some false) (fun k => by simp only [spec_veGood.j0, if_true]) (Ev.now _))
  · rw [decide_eq_false h1]
    exact Ev.ifF (by decide) (Ev.step (f := fun _ => some false) (fun k => by simp only [spec_veGood.j0, if_true]) (Ev.now _))
theorem toIntS_ev (l : List Int) (hl : l.length ≤ 1048576) : Ev (fun k => laws_toIntS.f k l) l := by
  refine Ev.congr (fun k => ?_) (copy_ev 0 (l0 := laws_toIntS.l0) (fun _ _ _ _ => rfl) l 0 (by omega))
  show laws_toIntS.f k l = _
  unfold laws_toIntS.f
  rw [if_pos (by omega), if_pos (by omega)]
theorem eqIntS_ev (l : List Int) (hl : l.length ≤ 1048576) : Ev (fun k => laws_eqIntS.f k l l) true := by
  refine Ev.congr (fun k => ?_) (same_ev (l0 := laws_eqIntS.l0) (fun k x i => by simp only [laws_eqIntS.l0, if_true]) l (by omega))
  show laws_eqIntS.f k l l = _
  unfold laws_eqIntS.f
  rw [if_pos rfl]
theorem szIntS_val (l : List Int) (a : Int) (hl : l.length ≤ maxLen) (ha0 : 0 ≤ a) (ha1 : a ≤ 1048576) : laws_szIntS.f l a = some (if (l.length : Int) ≤ a then a - (l.length : Int) else (-1 : Int)) := by
  simp only [maxLen] at hl
  unfold laws_szIntS.f
  rw [w64 (by omega) (by omega)]
  by_cases h : a - (l.length : Int) < 0
  · rw [if_pos h, if_neg (by omega)]
  · rw [if_neg h, if_pos (by omega)]
theorem szVessels_val (s h : List Int) (hs : s.length ≤ maxLen) (hh : h.length ≤ maxLen) (a : Int) (ha0 : 0 ≤ a) (ha1 : a ≤ 1048576) : laws_szVessels.f s h a = some (if (s.length : Int) + (h.length : Int) ≤ a then a - (s.length : Int) - (h.length : Int) else (-1 : Int)) := by
  unfold laws_szVessels.f
  rw [szIntS_val s a hs ha0 ha1, Option.bind_some]
  by_cases h1 : (s.length : Int) ≤ a
  · rw [if_pos h1, if_neg (by omega), szIntS_val h _ hh (by omega) (by omega), Option.bind_some]
    by_cases h2 : (h.length : Int) ≤ a - (s.length : Int)
    · rw [if_pos h2, if_neg (by omega), if_pos (by omega)]
    · rw [if_neg h2, if_pos (by omega), if_neg (by omega)]
  · rw [if_neg h1, if_pos (by omega), if_neg (by omega)]
theorem toVessels_ev (s h : List Int) (hs : s.length ≤ 1048576) (hh : h.length ≤ 1048576) : Ev (fun k => laws_toVessels.f k s h) (s, h) := by
  unfold laws_toVessels.f
  refine Ev.bind (toIntS_ev s hs) ?_
  try dsimp only
  refine Ev.bind (toIntS_ev h hh) ?_
  exact Ev.now _
theorem eqVessels_ev (s h : List Int) (hs : s.length ≤ 1048576) (hh : h.length ≤ 1048576) : Ev (fun k => laws_eqVessels.f k s h s h) true := by
  unfold laws_eqVessels.f
  refine Ev.bind (eqIntS_ev s hs) ?_
  try dsimp only
  refine Ev.ifT rfl (Ev.bind (eqIntS_ev h hh) ?_)
  exact Ev.ifT rfl (Ev.now _)
theorem abs_val (x : Int) : spec_l1Abs.f x = some (if x > wrap64 (-x) then x else wrap64 (-x)) := by
  unfold spec_l1Abs.f spec_l1Most.f
  split <;> rfl
theorem common_abs_ev {n d : Int} (hn0 : -9223372036854775807 ≤ n) (hn1 : n ≤ 9223372036854775807) (hd0 : 0 ≤ d) : Ev (fun k => spec_veCommon.f k (if n > wrap64 (-n) then n else wrap64 (-n)) d) (Int.gcd n d : Int) := by
  have hw : wrap64 (-n) = -n := w64 (by omega) (by omega)
  have := common_ev (l0 := spec_veCommon.l0) (fun _ _ _ => rfl) (a := if n > wrap64 (-n) then n else wrap64 (-n)) (b := d) (by rw [hw]; split <;> omega) hd0
  rw [(gcd_abs n d).resolve_right (by omega)] at this
  exact this
/-- a ratio of chapter 7 -/
def isR (n d : Int) : Bool := decide (-1000000000 ≤ n ∧ n ≤ 1000000000 ∧ 1 ≤ d ∧ d ≤ 1000000000 ∧ Int.gcd n d = 1)
theorem isR_ev (n d : Int) : Ev (fun k => impl_IsRatio.f k n d) (isR n d) := by
  by_cases h1 : 1 ≤ d ∧ d ≤ 1000000000
  · by_cases h2 : -1000000000 ≤ n ∧ n ≤ 1000000000
    · obtain ⟨K, h⟩ := gcd_ev (l0 := impl_gcd.l0) (fun _ _ _ => rfl) (a := n) (b := d) (by omega) (by omega) (by omega) (by omega)
      dsimp only at h
      refine ⟨K, fun k hk => ?_⟩
      show impl_IsRatio.f k n d = _
      unfold impl_IsRatio.f impl_gcd.f isR
      rw [within_val, Option.bind_some, decide_eq_true h1, if_pos rfl, within_val, Option.bind_some, decide_eq_true h2, if_pos rfl, h k hk, Option.bind_some]
      congr 1
      by_cases e : Int.gcd n d = 1
      · rw [decide_eq_true (by omega)]
        simp [e]
      · rw [decide_eq_false (by omega)]
        simp
        omega
    · refine ⟨0, fun k hk => ?_⟩
      show impl_IsRatio.f k n d = _
      unfold impl_IsRatio.f isR
      rw [within_val, Option.bind_some, decide_eq_true h1, if_pos rfl, within_val, Option.bind_some, decide_eq_false h2, if_neg (by decide), decide_eq_false (by omega)]
  · refine ⟨0, fun k hk => ?_⟩
    show impl_IsRatio.f k n d = _
    unfold impl_IsRatio.f isR
    rw [within_val, Option.bind_some, decide_eq_false h1, if_neg (by decide), decide_eq_false (by omega)]
theorem saGood_ev (n d : Int) : Ev (fun k => spec_saGood.f k n d) (isR n d) := by
  by_cases h2 : -1000000000 ≤ n ∧ n ≤ 1000000000
  · by_cases h1 : 1 ≤ d ∧ d ≤ 1000000000
    · obtain ⟨K, h⟩ := common_abs_ev (n := n) (d := d) (by omega) (by omega) (by omega)
      dsimp only at h
      refine ⟨K, fun k hk => ?_⟩
      show spec_saGood.f k n d = _
      unfold spec_saGood.f isR
      rw [in_val, Option.bind_some, decide_eq_true h2, if_pos rfl, in_val, Option.bind_some, decide_eq_true h1, if_pos rfl, abs_val, Option.bind_some, h k hk, Option.bind_some]
      congr 1
      by_cases e : Int.gcd n d = 1
      · rw [decide_eq_true (by omega)]
        simp [e]
      · rw [decide_eq_false (by omega)]
        simp
        omega
    · refine ⟨0, fun k hk => ?_⟩
      show spec_saGood.f k n d = _
      unfold spec_saGood.f isR
      rw [in_val, Option.bind_some, decide_eq_true h2, if_pos rfl, in_val, Option.bind_some, decide_eq_false h1, if_neg (by decide), decide_eq_false (by omega)]
  · refine ⟨0, fun k hk => ?_⟩
    show spec_saGood.f k n d = _
    unfold spec_saGood.f isR
    rw [in_val, Option.bind_some, decide_eq_false h2, if_neg (by decide), decide_eq_false (by omega)]
/-- brine -/
def goodB (s h : List Int) (r : List S74) : Bool := goodV s h && (decide ((r.length : Int) = s.length) && allFrom (fun i => isR (rd_T74 r i).f0 (rd_T74 r i).f1 && (!decide ((rd_T74 r i).f0 < 0) && !(decide (rd h i = 0) && decide ((rd_T74 r i).f0 > 0)))) r.length 0)
theorem goodB_le {s h : List Int} {r : List S74} (hg : goodB s h r = true) : goodV s h = true ∧ r.length = s.length ∧ ∀ j : Int, 0 ≤ j → j < r.length → isR (rd_T74 r j).f0 (rd_T74 r j).f1 = true ∧ 0 ≤ (rd_T74 r j).f0 := by
  unfold goodB at hg
  simp only [Bool.and_eq_true, decide_eq_true_eq, allFrom_iff] at hg
  refine ⟨hg.1, by omega, fun j h0 h1 => ?_⟩
  have := hg.2.2 j h0 (by omega)
  refine ⟨this.1, ?_⟩
  have h2 := this.2.1
  simp only [Bool.not_eq_true', decide_eq_false_iff_not] at h2
  omega
theorem brineLoop {l0 : Nat → List S74 → Int → Int → List Int → List Int → List S74 → Option Bool} {R : Nat → Int → Int → Option Bool}
    (hR : ∀ n d, Ev (fun k => R k n d) (isR n d)) (hm : ∀ k a b c d e g, LeO (l0 k a b c d e g) (l0 (k + 1) a b c d e g))
    (h : ∀ k x20 x21 x22 x122000 x122001 x122002, l0 (k + 1) x20 x21 x22 x122000 x122001 x122002 = if x22 < x21 then (if 0 ≤ x22 then (if x22 < (x20.length : Int) then ((R k ((rd_T74 x20 x22).f0) ((rd_T74 x20 x22).f1)).bind fun t125 => (if t125 = true then (if ((rd_T74 x20 x22).f0) < 0 then (some false) else (if x22 < (x122001.length : Int) then (if (rd x122001 x22) = 0 then (if ((rd_T74 x20 x22).f0) > 0 then (some false) else (l0 k x20 x21 (wrap64 (x22 + 1)) x122000 x122001 x122002)) else (l0 k x20 x21 (wrap64 (x22 + 1)) x122000 x122001 x122002)) else (none))) else (some false))) else (none)) else (none)) else (some true))
    (s h' : List Int) (r : List S74) (hr : r.length ≤ 1048576) (hh : h'.length = r.length) (m : Nat) : ∀ (i : Int), 0 ≤ i → (r.length : Int) - i = m →
    Ev (fun k => l0 k r (r.length : Int) i s h' r) (allFrom (fun i => isR (rd_T74 r i).f0 (rd_T74 r i).f1 && (!decide ((rd_T74 r i).f0 < 0) && !(decide (rd h' i = 0) && decide ((rd_T74 r i).f0 > 0)))) m i) := by
  induction m with
  | zero =>
    intro i h0 hi
    exact Ev.step (f := fun _ => some true) (fun k => by rw [h, if_neg (by omega)]) (Ev.now _)
  | succ m ih =>
    intro i h0 hi
    obtain ⟨K, k1⟩ := hR (rd_T74 r i).f0 (rd_T74 r i).f1
    dsimp only at k1
    obtain ⟨K2, k2⟩ := ih (i + 1) (by omega) (by omega)
    dsimp only at k2
    refine ⟨max K K2 + 1, fun k hk => ?_⟩
    obtain ⟨k, rfl⟩ : ∃ j, k = j + 1 := ⟨k - 1, by omega⟩
    show l0 (k + 1) r (r.length : Int) i s h' r = _
    rw [h, if_pos (by omega), if_pos h0, if_pos (by omega), k1 k (by omega), Option.bind_some, w64 (x := i + 1) (by omega) (by omega), k2 k (by omega), if_pos (show i < (h'.length : Int) by omega)]
    simp only [allFrom]
    cases isR (rd_T74 r i).f0 (rd_T74 r i).f1 with
    | false => rfl
    | true =>
      rw [if_pos rfl]
      by_cases c1 : (rd_T74 r i).f0 < 0
      · rw [if_pos c1, decide_eq_true c1]; rfl
      · rw [if_neg c1, decide_eq_false c1]
        by_cases c2 : rd h' i = 0
        · rw [if_pos c2, decide_eq_true c2]
          by_cases c3 : (rd_T74 r i).f0 > 0
          · rw [if_pos c3, decide_eq_true c3]; rfl
          · rw [if_neg c3, decide_eq_false c3]; simp
        · rw [if_neg c2, decide_eq_false c2]; simp
theorem isBrine_ev (s h : List Int) (r : List S74) (hs : s.length ≤ 1048576) (hh : h.length ≤ 1048576) (hr : r.length ≤ 1048576) : Ev (fun k => impl_IsBrine.f k s h r) (goodB s h r) := by
  unfold impl_IsBrine.f goodB
  refine Ev.bind (areVessels_ev s h hs hh) ?_
  try dsimp only
  cases hg : goodV s h with
  | false => exact Ev.ifF (by decide) (Ev.step (f := fun _ => some false) (fun k => by simp only [impl_IsBrine.j0, if_true]) (Ev.now _))
  | true =>
    have hv := goodV_le hg
    refine Ev.ifT rfl ?_
    by_cases h2 : (r.length : Int) = s.length
    · rw [decide_eq_true h2]
      refine Ev.step (f := fun k => impl_IsBrine.l0 k r (r.length : Int) 0 s h r) (fun k => by simp [impl_IsBrine.j0, h2]) ?_
      simpa using brineLoop (l0 := impl_IsBrine.l0) (R := impl_IsRatio.f) isR_ev (fun k a b c d e g => ((impl_IsBrine.mono_l k).2 a b c d e g)) (fun _ _ _ _ _ _ _ => rfl) s h r hr (by omega) r.length 0 (by omega) (by omega)
    · rw [decide_eq_false h2]
      exact Ev.step (f := fun _ => some false) (fun k => by simp [impl_IsBrine.j0, h2]) (Ev.now _)
theorem saBrine_ev (s h : List Int) (r : List S74) (hs : s.length ≤ 1048576) (hh : h.length ≤ 1048576) (hr : r.length ≤ 1048576) : Ev (fun k => spec_saBrine.f k s h r) (goodB s h r) := by
  unfold spec_saBrine.f goodB
  refine Ev.bind (veGood_ev s h hs hh) ?_
  try dsimp only
  cases hg : goodV s h with
  | false => exact Ev.ifF (by decide) (Ev.step (f := fun _ => some false) (fun k => by simp only [spec_saBrine.j0, if_true]) (Ev.now _))
  | true =>
    have hv := goodV_le hg
    refine Ev.ifT rfl ?_
    by_cases h2 : (r.length : Int) = s.length
    · rw [decide_eq_true h2]
      refine Ev.step (f := fun k => spec_saBrine.l0 k r (r.length : Int) 0 s h r) (fun k => by simp [spec_saBrine.j0, h2]) ?_
      simpa using brineLoop (l0 := spec_saBrine.l0) (R := spec_saGood.f) saGood_ev (fun k a b c d e g => ((spec_saBrine.mono_l k).2 a b c d e g)) (fun _ _ _ _ _ _ _ => rfl) s h r hr (by omega) r.length 0 (by omega) (by omega)
    · rw [decide_eq_false h2]
      exact Ev.step (f := fun _ => some false) (fun k => by simp [spec_saBrine.j0, h2]) (Ev.now _)
/-- what the law's copies hold -/
def toR (l : List S138) : List S74 := l.map fun x => ⟨x.f0, x.f1⟩
theorem toRatioS_ev (l : List S138) (hl : l.length ≤ 1048576) : Ev (fun k => laws_toRatioS.f k l) (toR l) := by
  have key : ∀ (m : Nat) (i : Int) (y : List S74), 0 ≤ i → (l.length : Int) - i = m → y.length = l.length → (∀ j : Nat, j < i.toNat → y[j]? = (toR l)[j]?) → Ev (fun k => laws_toRatioS.l0 k l y i) (toR l) := by
    intro m
    induction m with
    | zero =>
      intro i y h0 hm hy hx
      refine Ev.step (f := fun _ => some y) (fun k => by simp only [laws_toRatioS.l0]; rw [if_neg (by omega)]) ?_
      have : y = toR l := by
        apply List.ext_getElem?
        intro j
        by_cases hj : j < i.toNat
        · exact hx j hj
        · rw [List.getElem?_eq_none (by omega), List.getElem?_eq_none (by simp [toR]; omega)]
      rw [this]
      exact Ev.now _
    | succ m ih =>
      intro i y h0 hm hy hx
      have hj : i.toNat < l.length := by omega
      refine Ev.step (f := fun k => laws_toRatioS.l0 k l (y.set i.toNat ⟨(rd_T138 l i).f0, (rd_T138 l i).f1⟩) (i + 1)) (fun k => ?_) ?_
      · simp only [laws_toRatioS.l0, laws_toRatio.f, Option.bind_some]
        rw [if_pos (by omega), if_pos h0, if_pos (by omega), w64 (by omega) (by omega)]
      · refine ih (i + 1) _ (by omega) (by omega) (by rw [List.length_set]; exact hy) (fun j hlt => ?_)
        by_cases e : j = i.toNat
        · subst e
          rw [List.getElem?_set_self (by omega)]
          simp only [toR, List.getElem?_map, List.getElem?_eq_getElem hj, Option.map_some]
          unfold rd_T138
          rw [getD_eq z138 hj]
        · rw [List.getElem?_set_ne (fun e' => e e'.symm)]
          exact hx j (by omega)
  refine Ev.congr (fun k => ?_) (key l.length 0 (List.replicate l.length z74) (by omega) (by omega) (by simp) (fun j hj => absurd hj (by simp)))
  show laws_toRatioS.f k l = _
  unfold laws_toRatioS.f
  rw [if_pos (by omega), if_pos (by omega), Int.toNat_natCast]
theorem eqRatioS_ev (l : List S74) (hl : l.length ≤ 1048576) : Ev (fun k => laws_eqRatioS.f k l l) true := by
  refine Ev.congr (fun k => ?_) (same_ev (l0 := laws_eqRatioS.l0) (fun k x i => by simp only [laws_eqRatioS.l0, laws_eqRatio.f, if_true, Option.bind_some]) l (by omega))
  show laws_eqRatioS.f k l l = _
  unfold laws_eqRatioS.f
  rw [if_pos rfl]
theorem szBrine_val (s h : List Int) (r : List S138) (hs : s.length ≤ maxLen) (hh : h.length ≤ maxLen) (hr : r.length ≤ maxLen) : laws_szBrine.f s h r 1048576 = some (if (s.length : Int) + (h.length : Int) + (r.length : Int) ≤ 1048576 then (1048576 : Int) - (s.length : Int) - (h.length : Int) - (r.length : Int) else (-1 : Int)) := by
  simp only [maxLen] at hr
  unfold laws_szBrine.f laws_szRatioS.f
  rw [szVessels_val s h hs hh 1048576 (by omega) (by omega), Option.bind_some]
  by_cases h1 : (s.length : Int) + (h.length : Int) ≤ 1048576
  · rw [if_pos h1, if_neg (by omega), w64 (by omega) (by omega)]
    by_cases h2 : (1048576 : Int) - (s.length : Int) - (h.length : Int) - (r.length : Int) < 0
    · rw [if_pos h2, Option.bind_some, if_pos (by omega), if_neg (by omega)]
    · rw [if_neg h2, Option.bind_some, if_neg (by omega), if_pos (by omega)]
  · rw [if_neg h1, if_pos (by omega), if_neg (by omega)]
theorem toBrine_ev (s h : List Int) (r : List S138) (hs : s.length ≤ 1048576) (hh : h.length ≤ 1048576) (hr : r.length ≤ 1048576) : Ev (fun k => laws_toBrine.f k s h r) (s, h, toR r) := by
  unfold laws_toBrine.f
  refine Ev.bind (toVessels_ev s h hs hh) ?_
  try dsimp only
  refine Ev.bind (toRatioS_ev r hr) ?_
  exact Ev.now _
theorem toR_length (r : List S138) : (toR r).length = r.length := by simp [toR]
theorem eqBrine_ev (s h : List Int) (r : List S74) (hs : s.length ≤ 1048576) (hh : h.length ≤ 1048576) (hr : r.length ≤ 1048576) : Ev (fun k => laws_eqBrine.f k s h r s h r) true := by
  unfold laws_eqBrine.f
  refine Ev.bind (eqVessels_ev s h hs hh) ?_
  try dsimp only
  refine Ev.ifT rfl (Ev.bind (eqRatioS_ev r hr) ?_)
  exact Ev.ifT rfl (Ev.now _)
theorem low_fit {n d : Int} (hn0 : -9223372036854775807 ≤ n) (hn1 : n ≤ 9223372036854775807) (hd0 : 0 < d) (hd1 : d ≤ 9223372036854775807) :
    wrap64 (Int.tdiv n (Int.gcd n d)) = (low n d).1 ∧ wrap64 (Int.tdiv d (Int.gcd n d)) = (low n d).2 := by
  have h1 := tdiv_bound n (Int.gcd n d)
  have h2 := tdiv_bound d (Int.gcd n d)
  exact ⟨w64 (by omega) (by omega), w64 (by omega) (by omega)⟩
theorem lowest_ev {n d : Int} (hn0 : -9223372036854775807 ≤ n) (hn1 : n ≤ 9223372036854775807) (hd0 : 0 < d) (hd1 : d ≤ 9223372036854775807) : Ev (fun k => impl_lowest.f k n d) (low n d) := by
  obtain ⟨K, h⟩ := gcd_ev (l0 := impl_gcd.l0) (fun _ _ _ => rfl) (a := n) (b := d) hn0 hn1 (by omega) hd1
  dsimp only at h
  have hp := gcd_pos (a := n) (b := d) (by omega)
  refine ⟨K, fun k hk => ?_⟩
  show impl_lowest.f k n d = _
  unfold impl_lowest.f impl_gcd.f
  rw [h k hk, Option.bind_some, if_neg (by omega), if_neg (by omega), (low_fit hn0 hn1 hd0 hd1).1, (low_fit hn0 hn1 hd0 hd1).2]
theorem isR_bound {n d : Int} (h : isR n d = true) : -1000000000 ≤ n ∧ n ≤ 1000000000 ∧ 1 ≤ d ∧ d ≤ 1000000000 := by
  have := of_decide_eq_true h
  omega
theorem saRatio_ev {n d : Int} (hn0 : -4000000000000000000 ≤ n) (hn1 : n ≤ 4000000000000000000) (hd0 : 0 < d) (hd1 : d ≤ 4000000000000000000) : Ev (fun k => spec_saRatio.f k n d) ((low n d).1, (low n d).2, isR (low n d).1 (low n d).2) := by
  obtain ⟨K1, k1⟩ := common_abs_ev (n := n) (d := d) (by omega) (by omega) (by omega)
  dsimp only at k1
  obtain ⟨K2, k2⟩ := saGood_ev (low n d).1 (low n d).2
  dsimp only at k2
  have hp := gcd_pos (a := n) (b := d) (by omega)
  have hz : ¬ ((Int.gcd n d : Int) = 0) := by omega
  refine ⟨max K1 K2, fun k hk => ?_⟩
  show spec_saRatio.f k n d = _
  unfold spec_saRatio.f
  simp only [abs_val, Option.bind_some, k1 k (by omega), if_neg hz, (low_fit (by omega : -9223372036854775807 ≤ n) (by omega) hd0 (by omega)).1, (low_fit (by omega : -9223372036854775807 ≤ n) (by omega) hd0 (by omega)).2, k2 k (by omega)]
theorem mul_in {a b A B : Int} (h0 : -A ≤ a) (h1 : a ≤ A) (h2 : 0 ≤ b) (h3 : b ≤ B) (hA : 0 ≤ A) : -(A * B) ≤ a * b ∧ a * b ≤ A * B := by
  have p1 := Int.mul_le_mul_of_nonneg_right h1 h2
  have p2 := Int.mul_le_mul_of_nonneg_right h0 h2
  have p3 := Int.mul_le_mul_of_nonneg_left h3 hA
  rw [Int.neg_mul] at p2
  omega
theorem made_ev {n d : Int} (hn0 : -4000000000000000000 ≤ n) (hn1 : n ≤ 4000000000000000000) (hd0 : 0 < d) (hd1 : d ≤ 4000000000000000000) : Ev (fun k => impl_made.f k n d) ((low n d).1, (low n d).2, isR (low n d).1 (low n d).2) := by
  obtain ⟨K1, k1⟩ := lowest_ev (n := n) (d := d) (by omega) (by omega) hd0 (by omega)
  dsimp only at k1
  obtain ⟨K2, k2⟩ := isR_ev (low n d).1 (low n d).2
  dsimp only at k2
  refine ⟨max K1 K2, fun k hk => ?_⟩
  show impl_made.f k n d = _
  unfold impl_made.f
  simp only [k1 k (by omega), Option.bind_some, k2 k (by omega)]
theorem brine_law {f : Nat → List Int → List Int → List S138 → Option Bool} {j0 : Nat → Bool → List Int → List Int → List S138 → List Int → List Int → List S74 → Option Bool} {S I : Nat → List Int → List Int → List S74 → Option (Int × Int × Bool)}
    (hj : ∀ k x a b c d e g, j0 (k + 1) x a b c d e g = if x = true then (some false) else ((laws_toBrine.f k a b c).bind fun bt273 => ((laws_eqBrine.f k d e g bt273.1 bt273.2.1 bt273.2.2).bind fun t282 => (if t282 = true then (some true) else (some false)))))
    (hf : ∀ k l0_0 l0_1 l0_2, f k l0_0 l0_1 l0_2 = (laws_szBrine.f l0_0 l0_1 l0_2 1048576).bind fun t244 => (if t244 < 0 then (some true) else ((laws_toBrine.f k l0_0 l0_1 l0_2).bind fun bt245 => ((S k bt245.1 bt245.2.1 bt245.2.2).bind fun bt254 => ((laws_toBrine.f k l0_0 l0_1 l0_2).bind fun bt258 => ((I k bt258.1 bt258.2.1 bt258.2.2).bind fun bt268 => ((laws_eqRatio.f bt268.1 bt268.2.1 bt254.1 bt254.2.1).bind fun t272 => (if t272 = true then (j0 k (bt268.2.2 != bt254.2.2) l0_0 l0_1 l0_2 bt258.1 bt258.2.1 bt258.2.2) else (j0 k true l0_0 l0_1 l0_2 bt258.1 bt258.2.1 bt258.2.2)))))))))
    (hr : ∀ s h r, s.length ≤ 1048576 → h.length ≤ 1048576 → r.length ≤ 1048576 → ∃ q, Ev (fun k => S k s h r) q ∧ Ev (fun k => I k s h r) q)
    (s h : List Int) (r : List S138) (hs : s.length ≤ maxLen) (hh : h.length ≤ maxLen) (hrr : r.length ≤ maxLen) : ∃ k, f k s h r = some true := by
  refine Ev.rounds (?_ : Ev (fun k => f k s h r) true)
  refine Ev.congr (fun k => hf k s h r) ?_
  rw [szBrine_val s h r hs hh hrr]
  by_cases hl : (s.length : Int) + (h.length : Int) + (r.length : Int) ≤ 1048576
  · have hrl : (toR r).length ≤ 1048576 := by rw [toR_length]; omega
    obtain ⟨q, hS, hI⟩ := hr s h (toR r) (by omega) (by omega) hrl
    rw [if_pos hl]
    simp only [Option.bind_some]
    refine Ev.ifF (by omega) ?_
    refine Ev.bind (toBrine_ev s h r (by omega) (by omega) (by omega)) ?_
    try dsimp only
    refine Ev.bind hS ?_
    try dsimp only
    refine Ev.bind (toBrine_ev s h r (by omega) (by omega) (by omega)) ?_
    try dsimp only
    refine Ev.bind hI ?_
    try dsimp only
    simp only [laws_eqRatio.f, if_true, Option.bind_some]
    refine Ev.step (fun k => hj k _ _ _ _ _ _ _) ?_
    refine Ev.ifF (by simp) ?_
    refine Ev.bind (toBrine_ev s h r (by omega) (by omega) (by omega)) ?_
    try dsimp only
    refine Ev.bind (eqBrine_ev s h (toR r) (by omega) (by omega) hrl) ?_
    exact Ev.ifT rfl (Ev.now _)
  · rw [if_neg hl]
    simp only [Option.bind_some]
    exact Ev.ifT (by decide) (Ev.now _)
/-- the sum of the salt from place i on -/
def totalR (r : List S74) : Nat → Int → Int → Int → Int × Int × Bool
  | 0, _, n, d => (n, d, true)
  | m + 1, i, n, d =>
    if isR (low (n * (rd_T74 r i).f1 + (rd_T74 r i).f0 * d) (d * (rd_T74 r i).f1)).1 (low (n * (rd_T74 r i).f1 + (rd_T74 r i).f0 * d) (d * (rd_T74 r i).f1)).2 = true
    then totalR r m (i + 1) (low (n * (rd_T74 r i).f1 + (rd_T74 r i).f0 * d) (d * (rd_T74 r i).f1)).1 (low (n * (rd_T74 r i).f1 + (rd_T74 r i).f0 * d) (d * (rd_T74 r i).f1)).2 else (0, 0, false)
theorem plus_fit {n d a b : Int} (h1 : isR n d = true) (h2 : isR a b = true) : wrap64 (n * b) = n * b ∧ wrap64 (a * d) = a * d ∧ wrap64 (n * b + a * d) = n * b + a * d ∧ wrap64 (d * b) = d * b ∧ -4000000000000000000 ≤ n * b + a * d ∧ n * b + a * d ≤ 4000000000000000000 ∧ 0 < d * b ∧ d * b ≤ 4000000000000000000 ∧ wrap64 (1 * a) = a := by
  have b1 := isR_bound h1
  have b2 := isR_bound h2
  have p1 := mul_in (a := n) (b := b) (A := 1000000000) (B := 1000000000) (by omega) (by omega) (by omega) (by omega) (by omega)
  have p2 := mul_in (a := a) (b := d) (A := 1000000000) (B := 1000000000) (by omega) (by omega) (by omega) (by omega) (by omega)
  have p3 := mul_in (a := d) (b := b) (A := 1000000000) (B := 1000000000) (by omega) (by omega) (by omega) (by omega) (by omega)
  have p4 : 0 < d * b := Int.mul_pos (by omega) (by omega)
  refine ⟨w64 (by omega) (by omega), w64 (by omega) (by omega), w64 (by omega) (by omega), w64 (by omega) (by omega), by omega, by omega, p4, by omega, ?_⟩
  rw [Int.one_mul]
  exact w64 (by omega) (by omega)
theorem specTotal_ev (r : List S74) (hr : r.length ≤ 1048576) (hg : ∀ j : Int, 0 ≤ j → j < r.length → isR (rd_T74 r j).f0 (rd_T74 r j).f1 = true) (m : Nat) : ∀ (i n d : Int), 0 ≤ i → (r.length : Int) - i = m → isR n d = true → Ev (fun k => spec_saTotal.l0 k r (r.length : Int) i n d) (totalR r m i n d) := by
  induction m with
  | zero =>
    intro i n d h0 hi _
    exact Ev.step (f := fun _ => some (n, d, true)) (fun k => by simp only [spec_saTotal.l0]; rw [if_neg (by omega)]) (Ev.now _)
  | succ m ih =>
    intro i n d h0 hi hnd
    have hf := plus_fit hnd (hg i h0 (by omega))
    obtain ⟨K, k1⟩ := saRatio_ev (n := n * (rd_T74 r i).f1 + (rd_T74 r i).f0 * d) (d := d * (rd_T74 r i).f1) hf.2.2.2.2.1 hf.2.2.2.2.2.1 hf.2.2.2.2.2.2.1 hf.2.2.2.2.2.2.2.1
    dsimp only at k1
    cases hR : isR (low (n * (rd_T74 r i).f1 + (rd_T74 r i).f0 * d) (d * (rd_T74 r i).f1)).1 (low (n * (rd_T74 r i).f1 + (rd_T74 r i).f0 * d) (d * (rd_T74 r i).f1)).2 with
    | true =>
      obtain ⟨K2, k2⟩ := ih (i + 1) _ _ (by omega) (by omega) hR
      dsimp only at k2
      refine ⟨max K K2 + 1, fun k hk => ?_⟩
      obtain ⟨k, rfl⟩ : ∃ j, k = j + 1 := ⟨k - 1, by omega⟩
      show spec_saTotal.l0 (k + 1) r (r.length : Int) i n d = _
      simp only [spec_saTotal.l0, totalR, hR, if_true]
      rw [if_pos (by omega), if_pos h0, if_pos (by omega)]
      unfold spec_saPlus.f
      rw [hf.1, hf.2.1, hf.2.2.1, hf.2.2.2.1, k1 k (by omega), w64 (x := i + 1) (by omega) (by omega)]
      simp only [Option.bind_some, hR, if_true]
      exact k2 k (by omega)
    | false =>
      refine ⟨K + 1, fun k hk => ?_⟩
      obtain ⟨k, rfl⟩ : ∃ j, k = j + 1 := ⟨k - 1, by omega⟩
      show spec_saTotal.l0 (k + 1) r (r.length : Int) i n d = _
      simp only [spec_saTotal.l0, totalR, hR, Bool.false_eq_true, if_false]
      rw [if_pos (by omega), if_pos h0, if_pos (by omega)]
      unfold spec_saPlus.f
      rw [hf.1, hf.2.1, hf.2.2.1, hf.2.2.2.1, k1 k (by omega)]
      simp only [Option.bind_some, hR, Bool.false_eq_true, if_false]
theorem implTotal_ev (r : List S74) (hr : r.length ≤ 1048576) (hg : ∀ j : Int, 0 ≤ j → j < r.length → isR (rd_T74 r j).f0 (rd_T74 r j).f1 = true) (m : Nat) : ∀ (i n d : Int), 0 ≤ i → (r.length : Int) - i = m → isR n d = true → Ev (fun k => impl_TotalSalt.l0 k r (r.length : Int) i n d) (totalR r m i n d) := by
  induction m with
  | zero =>
    intro i n d h0 hi _
    exact Ev.step (f := fun _ => some (n, d, true)) (fun k => by simp only [impl_TotalSalt.l0]; rw [if_neg (by omega)]) (Ev.now _)
  | succ m ih =>
    intro i n d h0 hi hnd
    have hf := plus_fit hnd (hg i h0 (by omega))
    obtain ⟨K, k1⟩ := made_ev (n := n * (rd_T74 r i).f1 + (rd_T74 r i).f0 * d) (d := d * (rd_T74 r i).f1) hf.2.2.2.2.1 hf.2.2.2.2.2.1 hf.2.2.2.2.2.2.1 hf.2.2.2.2.2.2.2.1
    dsimp only at k1
    cases hR : isR (low (n * (rd_T74 r i).f1 + (rd_T74 r i).f0 * d) (d * (rd_T74 r i).f1)).1 (low (n * (rd_T74 r i).f1 + (rd_T74 r i).f0 * d) (d * (rd_T74 r i).f1)).2 with
    | true =>
      obtain ⟨K2, k2⟩ := ih (i + 1) _ _ (by omega) (by omega) hR
      dsimp only at k2
      refine ⟨max K K2 + 1, fun k hk => ?_⟩
      obtain ⟨k, rfl⟩ : ∃ j, k = j + 1 := ⟨k - 1, by omega⟩
      show impl_TotalSalt.l0 (k + 1) r (r.length : Int) i n d = _
      simp only [impl_TotalSalt.l0, totalR, hR, if_true]
      rw [if_pos (by omega), if_pos h0, if_pos (by omega)]
      unfold impl_Ratio_plus.f
      rw [hf.1, hf.2.2.2.2.2.2.2.2, hf.2.1, hf.2.2.1, hf.2.2.2.1, k1 k (by omega), w64 (x := i + 1) (by omega) (by omega)]
      simp only [Option.bind_some, hR, if_true]
      exact k2 k (by omega)
    | false =>
      refine ⟨K + 1, fun k hk => ?_⟩
      obtain ⟨k, rfl⟩ : ∃ j, k = j + 1 := ⟨k - 1, by omega⟩
      show impl_TotalSalt.l0 (k + 1) r (r.length : Int) i n d = _
      simp only [impl_TotalSalt.l0, totalR, hR, Bool.false_eq_true, if_false]
      rw [if_pos (by omega), if_pos h0, if_pos (by omega)]
      unfold impl_Ratio_plus.f
      rw [hf.1, hf.2.2.2.2.2.2.2.2, hf.2.1, hf.2.2.1, hf.2.2.2.1, k1 k (by omega)]
      simp only [Option.bind_some, hR, Bool.false_eq_true, if_false]
theorem veSum_ev (l : List Int) (hl : l.length ≤ 1048576) : Ev (fun k => spec_veSum.f k l) (l.foldl (fun a b => wrap64 (a + b)) 0) := by
  refine sum_ev (l0 := fun k x s i => spec_veSum.l0 k s x (x.length : Int) i) (fun k x s i h0 => ?_) l (by omega) 0
  show spec_veSum.l0 (k + 1) s x (x.length : Int) i = _
  simp only [spec_veSum.l0]
  by_cases hi : i < (x.length : Int)
  · rw [if_pos hi, if_pos h0, if_pos hi, if_pos hi]; rfl
  · rw [if_neg hi, if_neg hi]
theorem total_ev (l : List Int) (hl : l.length ≤ 1048576) : Ev (fun k => impl_total.f k l) (l.foldl (fun a b => wrap64 (a + b)) 0) := by
  refine sum_ev (l0 := fun k x s i => impl_total.l0 k s x (x.length : Int) i) (fun k x s i h0 => ?_) l (by omega) 0
  show impl_total.l0 (k + 1) s x (x.length : Int) i = _
  simp only [impl_total.l0]
  by_cases hi : i < (x.length : Int)
  · rw [if_pos hi, if_pos h0, if_pos hi, if_pos hi]; rfl
  · rw [if_neg hi, if_neg hi]
theorem totalR_good (r : List S74) (m : Nat) : ∀ (i n d : Int), isR n d = true → (totalR r m i n d).2.2 = true → isR (totalR r m i n d).1 (totalR r m i n d).2.1 = true := by
  induction m with
  | zero => intro i n d h _; exact h
  | succ m ih =>
    intro i n d _ h
    simp only [totalR] at h ⊢
    split at h
    · rename_i hc
      rw [if_pos hc]
      exact ih _ _ _ hc h
    · exact absurd h (by simp)
theorem totalR_bad (r : List S74) (m : Nat) : ∀ (i n d : Int), (totalR r m i n d).2.2 = false → totalR r m i n d = (0, 0, false) := by
  induction m with
  | zero => intro i n d h; exact absurd h (by simp [totalR])
  | succ m ih =>
    intro i n d h
    simp only [totalR] at h ⊢
    split at h
    · rename_i hc
      rw [if_pos hc]
      exact ih _ _ _ h
    · rename_i hc
      rw [if_neg hc]
theorem foldl_bound (l : List Int) : ∀ (s : Int), (∀ x ∈ l, 0 ≤ x ∧ x ≤ 60) → 0 ≤ s → s + 60 * (l.length : Int) ≤ 1000000000 → 0 ≤ l.foldl (fun a b => wrap64 (a + b)) s ∧ l.foldl (fun a b => wrap64 (a + b)) s ≤ s + 60 * (l.length : Int) := by
  induction l with
  | nil => intro s _ h0 h1; simp; omega
  | cons x l ih =>
    intro s hx h0 h1
    have hx0 := hx x (by simp)
    simp only [List.length_cons] at h1
    rw [List.foldl_cons, w64 (x := s + x) (by omega) (by omega)]
    have := ih (s + x) (fun y hy => hx y (by simp [hy])) (by omega) (by omega)
    simp only [List.length_cons]
    omega
theorem held_sum {s h : List Int} (hg : goodV s h = true) : 0 ≤ h.foldl (fun a b => wrap64 (a + b)) 0 ∧ h.foldl (fun a b => wrap64 (a + b)) 0 ≤ 300 := by
  have hv := goodV_le hg
  have := foldl_bound h 0 (fun x hx => by
    obtain ⟨j, hj, rfl⟩ := List.mem_iff_getElem.1 hx
    have b2 := hv.2.2.2.2 (j : Int) (by omega) (by omega)
    have e1 : rd h (j : Int) = h[j] := by unfold rd; rw [Int.toNat_natCast, getD_eq 0 hj]
    have hj2 : j < s.length := by omega
    have e2 : rd s (j : Int) = s[j] := by unfold rd; rw [Int.toNat_natCast, getD_eq 0 hj2]
    have b3 := hv.2.2.2.1 s[j] (List.getElem_mem hj2)
    rw [e1, e2] at b2
    omega) (by omega) (by omega)
  omega
/-- the answer -/
def mixed (s h : List Int) (r : List S74) : Int × Int × Bool :=
  if goodB s h r = true then (if h.foldl (fun a b => wrap64 (a + b)) 0 = 0 then (0, 0, false) else
    if (totalR r r.length 0 0 1).2.2 = true then (if isR (low (totalR r r.length 0 0 1).1 ((totalR r r.length 0 0 1).2.1 * h.foldl (fun a b => wrap64 (a + b)) 0)).1 (low (totalR r r.length 0 0 1).1 ((totalR r r.length 0 0 1).2.1 * h.foldl (fun a b => wrap64 (a + b)) 0)).2 = true then ((low (totalR r r.length 0 0 1).1 ((totalR r r.length 0 0 1).2.1 * h.foldl (fun a b => wrap64 (a + b)) 0)).1, (low (totalR r r.length 0 0 1).1 ((totalR r r.length 0 0 1).2.1 * h.foldl (fun a b => wrap64 (a + b)) 0)).2, true) else (0, 0, false)) else (0, 0, false)) else (0, 0, false)
theorem mixed_fit {n d t : Int} (h1 : isR n d = true) (ht0 : 0 < t) (ht1 : t ≤ 300) : wrap64 (n * 1) = n ∧ wrap64 (d * t) = d * t ∧ -4000000000000000000 ≤ n ∧ n ≤ 4000000000000000000 ∧ 0 < d * t ∧ d * t ≤ 4000000000000000000 := by
  have b1 := isR_bound h1
  have p1 := mul_in (a := d) (b := t) (A := 1000000000) (B := 300) (by omega) (by omega) (by omega) (by omega) (by omega)
  have p2 : 0 < d * t := Int.mul_pos (by omega) ht0
  rw [Int.mul_one]
  exact ⟨w64 (by omega) (by omega), w64 (by omega) (by omega), by omega, by omega, p2, by omega⟩
theorem spec_ev (s h : List Int) (r : List S74) (h1 : s.length ≤ 1048576) (h2 : h.length ≤ 1048576) (h3 : r.length ≤ 1048576) : Ev (fun k => spec_MixedShare.f k s h r) (mixed s h r) := by
  unfold spec_MixedShare.f mixed
  refine Ev.bind (saBrine_ev s h r h1 h2 h3) ?_
  try dsimp only
  cases hg : goodB s h r with
  | false => exact Ev.ifF (by decide) (Ev.step (f := fun _ => some (0, 0, false)) (fun k => by simp only [spec_MixedShare.j0, if_true]) (Ev.now _))
  | true =>
    have hb := goodB_le hg
    have hs := held_sum hb.1
    have h01 : isR 0 1 = true := by decide
    have hT := specTotal_ev r h3 (fun j a b => (hb.2.2 j a b).1) r.length 0 0 1 (by omega) (by omega) h01
    have hG := totalR_good r r.length 0 0 1 h01
    have hB := totalR_bad r r.length 0 0 1
    have hV := veSum_ev h h2
    refine Ev.ifT rfl (Ev.bind hV ?_)
    try dsimp only
    simp only [if_true]
    generalize h.foldl (fun a b => wrap64 (a + b)) 0 = t at hs hV ⊢
    generalize totalR r r.length 0 0 1 = q at hT hG hB ⊢
    obtain ⟨n, d, ok⟩ := q
    dsimp only at hG hB ⊢
    by_cases hz : t = 0
    · rw [if_pos hz]
      exact Ev.step (f := fun _ => some (0, 0, false)) (fun k => by simp only [spec_MixedShare.j0, hz, beq_self_eq_true, if_true]) (Ev.now _)
    · rw [if_neg hz]
      refine Ev.step (fun k => rfl) (Ev.ifF (by simpa using hz) ?_)
      refine Ev.bind (g := fun k => spec_saTotal.f k s h r) hT ?_
      try dsimp only
      cases ok with
      | false =>
        rw [if_neg (by decide)]
        exact Ev.ifF (by decide) (Ev.now _)
      | true =>
        have hf := mixed_fit (hG rfl) (t := t) (by omega) (by omega)
        rw [if_pos rfl]
        refine Ev.ifT rfl (Ev.bind hV ?_)
        try dsimp only
        unfold spec_saTimes.f
        rw [hf.1, hf.2.1]
        refine Ev.bind (Ev.bind (saRatio_ev (n := n) (d := d * t) hf.2.2.1 hf.2.2.2.1 hf.2.2.2.2.1 hf.2.2.2.2.2) (Ev.now _)) ?_
        try dsimp only
        split
        · exact Ev.now _
        · exact Ev.now _
theorem implTotalSalt_ev (s h : List Int) (r : List S74) (h1 : s.length ≤ 1048576) (h2 : h.length ≤ 1048576) (h3 : r.length ≤ 1048576) : Ev (fun k => impl_TotalSalt.f k s h r) (if goodB s h r = true then totalR r r.length 0 0 1 else (0, 0, false)) := by
  unfold impl_TotalSalt.f
  refine Ev.bind (isBrine_ev s h r h1 h2 h3) ?_
  try dsimp only
  cases hg : goodB s h r with
  | true =>
    have hb := goodB_le hg
    exact Ev.ifT rfl (implTotal_ev r h3 (fun j a b => (hb.2.2 j a b).1) r.length 0 0 1 (by omega) (by omega) (by decide))
  | false => exact Ev.ifF (by decide) (Ev.now _)
theorem impl_ev (s h : List Int) (r : List S74) (h1 : s.length ≤ 1048576) (h2 : h.length ≤ 1048576) (h3 : r.length ≤ 1048576) : Ev (fun k => impl_MixedShare.f k s h r) (mixed s h r) := by
  unfold impl_MixedShare.f mixed
  refine Ev.bind (implTotalSalt_ev s h r h1 h2 h3) ?_
  try dsimp only
  refine Ev.bind (total_ev h h2) ?_
  try dsimp only
  cases hg : goodB s h r with
  | false => exact Ev.ifF (by simp) (Ev.step (f := fun _ => some (0, 0, false)) (fun k => by simp only [impl_MixedShare.j0, if_true]) (Ev.now _))
  | true =>
    have hb := goodB_le hg
    have hs := held_sum hb.1
    have h01 : isR 0 1 = true := by decide
    have hG := totalR_good r r.length 0 0 1 h01
    simp only [if_true]
    generalize h.foldl (fun a b => wrap64 (a + b)) 0 = t at hs ⊢
    generalize totalR r r.length 0 0 1 = q at hG ⊢
    obtain ⟨n, d, ok⟩ := q
    dsimp only at hG ⊢
    cases ok with
    | false =>
      by_cases hz : t = 0
      · rw [if_pos hz]
        exact Ev.ifF (by decide) (Ev.step (f := fun _ => some (0, 0, false)) (fun k => by simp only [impl_MixedShare.j0, if_true]) (Ev.now _))
      · rw [if_neg hz, if_neg (by decide)]
        exact Ev.ifF (by decide) (Ev.step (f := fun _ => some (0, 0, false)) (fun k => by simp only [impl_MixedShare.j0, if_true]) (Ev.now _))
    | true =>
      refine Ev.ifT rfl ?_
      by_cases hz : t = 0
      · rw [if_pos hz]
        exact Ev.step (f := fun _ => some (0, 0, false)) (fun k => by simp only [impl_MixedShare.j0, hz, beq_self_eq_true, if_true]) (Ev.now _)
      · rw [if_neg hz, if_pos rfl]
        have hf := mixed_fit (hG rfl) (t := t) (by omega) (by omega)
        refine Ev.step (fun k => rfl) (Ev.ifF (by simpa using hz) ?_)
        rw [hf.2.1]
        refine Ev.bind (made_ev (n := n) (d := d * t) hf.2.2.1 hf.2.2.2.1 hf.2.2.2.2.1 hf.2.2.2.2.2) ?_
        try dsimp only
        split
        · exact Ev.now _
        · exact Ev.now _
theorem FnExactMixedShare : ∀ (l0_0 : (List Int)) (l0_1 : (List Int)) (l0_2 : (List S138)), (l0_0.length ≤ maxLen ∧ ∀ y4 ∈ l0_0, (Lit.int .i64 y4).wf = true) → (l0_1.length ≤ maxLen ∧ ∀ y4 ∈ l0_1, (Lit.int .i64 y4).wf = true) → (l0_2.length ≤ maxLen ∧ ∀ y4 ∈ l0_2, ((Lit.int .i64 y4.f0).wf = true) ∧ ((Lit.int .i64 y4.f1).wf = true)) → ∃ k, laws_FnExactMixedShare.f k l0_0 l0_1 l0_2 = some true := by
  intro s h r hs hh hr
  exact brine_law (f := laws_FnExactMixedShare.f) (j0 := laws_FnExactMixedShare.j0) (S := spec_MixedShare.f) (I := impl_MixedShare.f) (fun _ _ _ _ _ _ _ _ => rfl) (fun _ _ _ _ => rfl) (fun s h r h1 h2 h3 => ⟨mixed s h r, spec_ev s h r h1 h2 h3, impl_ev s h r h1 h2 h3⟩) s h r hs.1 hh.1 hr.1

end Go.Proofs.Ytminippcikenfaa.Pure

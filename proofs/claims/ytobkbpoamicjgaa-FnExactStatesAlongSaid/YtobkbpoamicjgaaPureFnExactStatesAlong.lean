/- The pure statement of the law FnExactStatesAlong: what its printed functions compute is true for every input. No conditions. -/
import Derived.Test.YtobkbpoamicjgaaPFnExactStatesAlongx9
import Derived.Test.YtobkbpoamicjgaaPl
namespace Go.Proofs.Ytobkbpoamicjgaa.Pure
open Go.RowKit Go.Proofs.Ytobkbpoamicjgaa.PFnExactStatesAlong Go.Proofs.YtobkbpoamicjgaaW.PrintWords Go.Proofs.YtobkbpoamicjgaaW.PrintLast Go.Proofs.Ytobkbpoamicjgaa.Pl
set_option linter.unusedVariables false
set_option linter.unusedSimpArgs false

theorem within_val (x a b : Int) : impl_within.f x a b = some (decide (a ≤ x ∧ x ≤ b)) := by
  unfold impl_within.f
  by_cases h : a ≤ x <;> simp [h]
theorem in_val (x a b : Int) : spec_l1In.f x a b = some (decide (a ≤ x ∧ x ≤ b)) := within_val x a b
/-- all elements lie in some bounds -/
def allIn (l : List Int) (a b : Int) : Bool := l.all fun x => decide (a ≤ x ∧ x ≤ b)
theorem areWithin_val (l : List Int) (a b : Int) : impl_areWithin.f l a b = some (allIn l a b) := by
  unfold impl_areWithin.f allIn
  congr 1
  rw [List.any_eq_not_all_not, Bool.not_not]
  congr 1
  funext x
  simp
theorem l1All_ev (l : List Int) (a b : Int) (hl : l.length ≤ 1048576) : Ev (fun k => spec_l1All.f k l a b) (allIn l a b) := by
  refine all_ev (l0 := fun k x i => spec_l1All.l0 k a b x (x.length : Int) i) 0 (fun x => decide (a ≤ x ∧ x ≤ b)) (fun k x i h0 => ?_) l (by omega)
  show spec_l1All.l0 (k + 1) a b x (x.length : Int) i = _
  simp only [spec_l1All.l0, in_val, Option.bind_some]
  by_cases hi : i < (x.length : Int)
  · rw [if_pos hi, if_pos h0, if_pos hi, if_pos hi]
    rfl
  · rw [if_neg hi, if_neg hi]
/-- vessels -/
def goodV (s h : List Int) : Bool := decide (1 ≤ (s.length : Int) ∧ (s.length : Int) ≤ 5) && (decide ((h.length : Int) = s.length) && (allIn s 1 60 && allFrom (fun i => decide (0 ≤ rd h i ∧ rd h i ≤ rd s i)) h.length 0))
theorem goodV_le {s h : List Int} (hg : goodV s h = true) : 1 ≤ s.length ∧ s.length ≤ 5 ∧ h.length = s.length ∧ (∀ x ∈ s, 1 ≤ x ∧ x ≤ 60) ∧ ∀ j : Int, 0 ≤ j → j < h.length → 0 ≤ rd h j ∧ rd h j ≤ rd s j := by
  unfold goodV allIn at hg
  simp only [Bool.and_eq_true, decide_eq_true_eq, List.all_eq_true, allFrom_iff] at hg
  exact ⟨by omega, by omega, by omega, hg.2.2.1, fun j h0 h1 => hg.2.2.2 j h0 (by omega)⟩
theorem areVessels_ev (s h : List Int) (hs : s.length ≤ 1048576) (hh : h.length ≤ 1048576) : Ev (fun k => impl_AreVessels.f k s h) (goodV s h) := by
  unfold impl_AreVessels.f goodV
  simp only [within_val, areWithin_val, Option.bind_some]
  by_cases h1 : 1 ≤ (s.length : Int) ∧ (s.length : Int) ≤ 5
  · rw [decide_eq_true h1]
    refine Ev.ifT rfl ?_
    by_cases h2 : (h.length : Int) = s.length
    · rw [decide_eq_true h2]
      refine Ev.ifT h2 ?_
      cases allIn s 1 60 with
      | true =>
        refine Ev.step (f := fun k => impl_AreVessels.l0 k h (h.length : Int) 0 s h) (fun k => by simp only [impl_AreVessels.j0, Bool.not_true, Bool.false_eq_true, if_false]) ?_
        refine allFrom_ev (l0 := fun k i => impl_AreVessels.l0 k h (h.length : Int) i s h) (by omega) (fun k i h0 => ?_)
        show impl_AreVessels.l0 (k + 1) h (h.length : Int) i s h = _
        simp only [impl_AreVessels.l0, within_val, Option.bind_some]
        by_cases hi : i < (h.length : Int)
        · rw [if_pos hi, if_pos h0, if_pos hi, if_pos (by omega), if_pos hi]
        · rw [if_neg hi, if_neg hi]
      | false => exact Ev.step (f := fun _ => some false) (fun k => by simp only [impl_AreVessels.j0, Bool.not_false, if_true]) (Ev.now _)
    · rw [decide_eq_false h2]
      exact Ev.ifF h2 (Ev.step (f := fun _ => some false) (fun k => by simp only [impl_AreVessels.j0, if_true]) (Ev.now _))
  · rw [decide_eq_false h1]
    exact Ev.ifF (by decide) (Ev.step (f := fun _ => some false) (fun k => by simp only [impl_AreVessels.j0, if_true]) (Ev.now _))
theorem veGood_ev (s h : List Int) (hs : s.length ≤ 1048576) (hh : h.length ≤ 1048576) : Ev (fun k => spec_veGood.f k s h) (goodV s h) := by
  unfold spec_veGood.f goodV
  simp only [in_val, Option.bind_some]
  by_cases h1 : 1 ≤ (s.length : Int) ∧ (s.length : Int) ≤ 5
  · rw [decide_eq_true h1]
    refine Ev.ifT rfl ?_
    by_cases h2 : (h.length : Int) = s.length
    · rw [decide_eq_true h2]
      refine Ev.ifT h2 (Ev.bind (l1All_ev s 1 60 hs) ?_)
      try dsimp only
      cases allIn s 1 60 with
      | true =>
        refine Ev.step (f := fun k => spec_veGood.l0 k h (h.length : Int) 0 s h) (fun k => by simp only [spec_veGood.j0, Bool.not_true, Bool.false_eq_true, if_false]) ?_
        refine allFrom_ev (l0 := fun k i => spec_veGood.l0 k h (h.length : Int) i s h) (by omega) (fun k i h0 => ?_)
        show spec_veGood.l0 (k + 1) h (h.length : Int) i s h = _
        simp only [spec_veGood.l0, in_val, Option.bind_some]
        by_cases hi : i < (h.length : Int)
        · rw [if_pos hi, if_pos h0, if_pos hi, if_pos (by omega), if_pos hi]
        · rw [if_neg hi, if_neg hi]
      | false => exact Ev.step (f := fun _ => some false) (fun k => by simp only [spec_veGood.j0, Bool.not_false, if_true]) (Ev.now _)
    · rw [decide_eq_false h2]
      exact Ev.ifF h2 (Ev.step (f := fun _ => some false) (fun k => by simp only [spec_veGood.j0, if_true]) (Ev.now _))
  · rw [decide_eq_false h1]
    exact Ev.ifF (by decide) (Ev.step (f := fun _ => some false) (fun k => by simp only [spec_veGood.j0, if_true]) (Ev.now _))
theorem toIntS_ev (l : List Int) (hl : l.length ≤ 1048576) : Ev (fun k => laws_toIntS.f k l) l := by
  refine Ev.congr (fun k => ?_) (copy_ev 0 (l0 := laws_toIntS.l0) (fun _ _ _ _ => rfl) l 0 (by omega))
  show laws_toIntS.f k l = _
  unfold laws_toIntS.f
  rw [if_pos (by omega), if_pos (by omega)]
theorem eqIntS_ev (l : List Int) (hl : l.length ≤ 1048576) : Ev (fun k => laws_eqIntS.f k l l) true := by
  refine Ev.congr (fun k => ?_) (same_ev (l0 := laws_eqIntS.l0) (fun k x i => by simp only [laws_eqIntS.l0, if_true]) l (by omega))
  show laws_eqIntS.f k l l = _
  unfold laws_eqIntS.f
  rw [if_pos rfl]
theorem szIntS_val (l : List Int) (a : Int) (hl : l.length ≤ maxLen) (ha0 : 0 ≤ a) (ha1 : a ≤ 1048576) : laws_szIntS.f l a = some (if (l.length : Int) ≤ a then a - (l.length : Int) else (-1 : Int)) := by
  simp only [maxLen] at hl
  unfold laws_szIntS.f
  rw [w64 (by omega) (by omega)]
  by_cases h : a - (l.length : Int) < 0
  · rw [if_pos h, if_neg (by omega)]
  · rw [if_neg h, if_pos (by omega)]
theorem szVessels_val (s h : List Int) (hs : s.length ≤ maxLen) (hh : h.length ≤ maxLen) (a : Int) (ha0 : 0 ≤ a) (ha1 : a ≤ 1048576) : laws_szVessels.f s h a = some (if (s.length : Int) + (h.length : Int) ≤ a then a - (s.length : Int) - (h.length : Int) else (-1 : Int)) := by
  unfold laws_szVessels.f
  rw [szIntS_val s a hs ha0 ha1, Option.bind_some]
  by_cases h1 : (s.length : Int) ≤ a
  · rw [if_pos h1, if_neg (by omega), szIntS_val h _ hh (by omega) (by omega), Option.bind_some]
    by_cases h2 : (h.length : Int) ≤ a - (s.length : Int)
    · rw [if_pos h2, if_neg (by omega), if_pos (by omega)]
    · rw [if_neg h2, if_pos (by omega), if_neg (by omega)]
  · rw [if_neg h1, if_pos (by omega), if_neg (by omega)]
theorem toVessels_ev (s h : List Int) (hs : s.length ≤ 1048576) (hh : h.length ≤ 1048576) : Ev (fun k => laws_toVessels.f k s h) (s, h) := by
  unfold laws_toVessels.f
  refine Ev.bind (toIntS_ev s hs) ?_
  try dsimp only
  refine Ev.bind (toIntS_ev h hh) ?_
  exact Ev.now _
theorem eqVessels_ev (s h : List Int) (hs : s.length ≤ 1048576) (hh : h.length ≤ 1048576) : Ev (fun k => laws_eqVessels.f k s h s h) true := by
  unfold laws_eqVessels.f
  refine Ev.bind (eqIntS_ev s hs) ?_
  try dsimp only
  refine Ev.ifT rfl (Ev.bind (eqIntS_ev h hh) ?_)
  exact Ev.ifT rfl (Ev.now _)
theorem clone_val (l : List Int) (hl : l.length ≤ 1048576) : slices_Clone_int_int.f l = some l := by
  unfold slices_Clone_int_int.f
  rw [if_pos (by omega)]
theorem own_val (s h : List Int) (hs : s.length ≤ 1048576) (hh : h.length ≤ 1048576) : impl_Vessels_own.f s h = some (s, h) := by
  unfold impl_Vessels_own.f
  rw [clone_val s hs, Option.bind_some, clone_val h hh, Option.bind_some]
/-- whether there is a move of n vessels -/
def isMv (n f t : Int) : Bool := decide (-1 ≤ f ∧ f ≤ n - 1) && (decide (-1 ≤ t ∧ t ≤ n - 1) && f != t)
theorem isMv_le {n f t : Int} (h : isMv n f t = true) : -1 ≤ f ∧ f ≤ n - 1 ∧ -1 ≤ t ∧ t ≤ n - 1 ∧ f ≠ t := by
  unfold isMv at h
  simp only [Bool.and_eq_true, decide_eq_true_eq, bne_iff_ne, ne_eq] at h
  exact ⟨h.1.1, h.1.2, h.2.1.1, h.2.1.2, h.2.2⟩
theorem veMove_val (n f t : Int) (h0 : 0 ≤ n) (h1 : n ≤ 1048576) : spec_veMove.f n f t = some (isMv n f t) := by
  unfold spec_veMove.f isMv
  rw [w64 (x := n - 1) (by omega) (by omega), in_val, in_val]
  simp only [Option.bind_some]
  cases decide (-1 ≤ f ∧ f ≤ n - 1) <;> cases decide (-1 ≤ t ∧ t ≤ n - 1) <;> simp
theorem isMove_val (n f t : Int) (h0 : 0 ≤ n) (h1 : n ≤ 1048576) : impl_Move_isMove.f f t n = some (isMv n f t) := by
  unfold impl_Move_isMove.f isMv
  rw [w64 (x := n - 1) (by omega) (by omega), within_val, within_val]
  simp only [Option.bind_some]
  cases decide (-1 ≤ f ∧ f ≤ n - 1) <;> cases decide (-1 ≤ t ∧ t ≤ n - 1) <;> simp
/-- what a move pours -/
def amt (s h : List Int) (f t : Int) : Int := if f < 0 then rd s t - rd h t else if t < 0 then rd h f else mn (rd h f) (rd s t - rd h t)
/-- what is held behind a move -/
def moved (s h : List Int) (f t : Int) : List Int :=
  let h1 := if 0 ≤ f then h.set f.toNat (wrap64 (rd h f - amt s h f t)) else h
  if 0 ≤ t then h1.set t.toNat (wrap64 (rd h1 t + amt s h f t)) else h1
theorem moved_len (s h : List Int) (f t : Int) : (moved s h f t).length = h.length := by
  unfold moved
  try dsimp only
  split <;> split <;> simp
theorem rd_mem {l : List Int} {i : Int} (h0 : 0 ≤ i) (h1 : i < l.length) : rd l i ∈ l := by
  unfold rd
  rw [List.getD_eq_getElem?_getD, List.getElem?_eq_getElem (by omega)]
  exact List.getElem_mem _
theorem good_room {s h : List Int} (hg : goodV s h = true) {t : Int} (h0 : 0 ≤ t) (h1 : t < s.length) : 0 ≤ rd h t ∧ rd h t ≤ rd s t ∧ rd s t ≤ 60 := by
  obtain ⟨_, _, he, hs, hh⟩ := goodV_le hg
  have h2 := hh t h0 (by omega)
  have h3 := hs _ (rd_mem h0 h1)
  exact ⟨h2.1, h2.2, h3.2⟩
theorem room_val (s h : List Int) (hg : goodV s h = true) (t : Int) (h0 : 0 ≤ t) (h1 : t < s.length) : impl_Vessels_room.f s h t = some (rd s t - rd h t) := by
  have hr := good_room hg h0 h1
  have he := (goodV_le hg).2.2.1
  unfold impl_Vessels_room.f
  rw [if_pos h0, if_pos h1, if_pos (by omega), w64 (by omega) (by omega)]
theorem amount_val (s h : List Int) (hg : goodV s h = true) (f t : Int) (hm : isMv s.length f t = true) : impl_Vessels_amount.f s h f t = some (amt s h f t) := by
  obtain ⟨m1, m2, m3, m4, m5⟩ := isMv_le hm
  have he := (goodV_le hg).2.2.1
  unfold impl_Vessels_amount.f amt
  by_cases c1 : f < 0
  · rw [if_pos c1, if_pos c1, room_val s h hg t (by omega) (by omega), Option.bind_some]
  · rw [if_neg c1, if_neg c1]
    by_cases c2 : t < 0
    · rw [if_pos c2, if_pos c2, if_pos (by omega), if_pos (by omega)]
    · rw [if_neg c2, if_neg c2, if_pos (by omega), if_pos (by omega), room_val s h hg t (by omega) (by omega), Option.bind_some]
theorem veAmount_val (s h : List Int) (hg : goodV s h = true) (f t : Int) (hm : isMv s.length f t = true) : spec_veAmount.f s h f t = some (amt s h f t) := by
  obtain ⟨m1, m2, m3, m4, m5⟩ := isMv_le hm
  have he := (goodV_le hg).2.2.1
  unfold spec_veAmount.f amt
  by_cases c1 : f < 0
  · have hr := good_room hg (t := t) (by omega) (by omega)
    rw [if_neg (by omega), if_pos c1, if_pos (by omega), if_pos (by omega), if_pos (by omega), if_pos (by omega), w64 (by omega) (by omega)]
    unfold spec_l1Least.f
    rw [if_neg (by omega), Option.bind_some]
  · rw [if_pos (by omega), if_neg c1, if_pos (by omega), if_pos (by omega)]
    by_cases c2 : t < 0
    · rw [if_neg (by omega), if_pos c2]
    · have hr := good_room hg (t := t) (by omega) (by omega)
      rw [if_pos (by omega), if_neg c2, if_pos (by omega), if_pos (by omega), if_pos (by omega), w64 (by omega) (by omega)]
      unfold spec_l1Least.f mn
      by_cases c3 : rd h f < rd s t - rd h t
      · rw [if_pos c3, if_neg (by omega), Option.bind_some]
      · rw [if_neg c3, Option.bind_some]
        by_cases c4 : rd s t - rd h t < rd h f
        · rw [if_pos c4]
        · rw [if_neg c4]
          congr 1
          omega
theorem l1Own_val (l : List Int) (hl : l.length ≤ 1048576) : spec_l1Own.f l = some l := by
  unfold spec_l1Own.f
  simp only [Option.bind_some, List.length_nil, List.nil_append]
  rw [if_pos (by omega)]
theorem veMake_val (s h : List Int) (hg : goodV s h = true) (f t : Int) (hm : isMv s.length f t = true) : spec_veMake.f s h f t = some (s, moved s h f t) := by
  obtain ⟨m1, m2, m3, m4, m5⟩ := isMv_le hm
  obtain ⟨_, h5, he, _, _⟩ := goodV_le hg
  unfold spec_veMake.f moved
  rw [veAmount_val s h hg f t hm, l1Own_val s (by omega), l1Own_val h (by omega)]
  simp only [Option.bind_some]
  by_cases c1 : 0 ≤ f
  · rw [if_pos (show f ≥ 0 from c1), if_pos c1, if_pos (by omega), if_pos c1]
    by_cases c2 : 0 ≤ t
    · rw [if_pos (show t ≥ 0 from c2), if_pos c2, if_pos (by omega), if_pos c2]
    · rw [if_neg (show ¬ t ≥ 0 from c2), if_neg c2]
  · rw [if_neg (show ¬ f ≥ 0 from c1), if_neg c1]
    by_cases c2 : 0 ≤ t
    · rw [if_pos (show t ≥ 0 from c2), if_pos c2, if_pos (by omega), if_pos c2]
    · rw [if_neg (show ¬ t ≥ 0 from c2), if_neg c2]
theorem behind_val (s h : List Int) (hg : goodV s h = true) (f t : Int) (hm : isMv s.length f t = true) : impl_Vessels_behind.f s h f t = some (s, moved s h f t) := by
  obtain ⟨m1, m2, m3, m4, m5⟩ := isMv_le hm
  obtain ⟨_, h5, he, _, _⟩ := goodV_le hg
  unfold impl_Vessels_behind.f moved
  rw [own_val s h (by omega) (by omega), Option.bind_some, amount_val s h hg f t hm]
  simp only [Option.bind_some]
  by_cases c1 : 0 ≤ f
  · rw [if_pos (show f ≥ 0 from c1), if_pos c1, if_pos (by omega), if_pos c1]
    by_cases c2 : 0 ≤ t
    · rw [if_pos (show t ≥ 0 from c2), if_pos c2, if_pos (by omega), if_pos c2]
    · rw [if_neg (show ¬ t ≥ 0 from c2), if_neg c2]
  · rw [if_neg (show ¬ f ≥ 0 from c1), if_neg c1]
    by_cases c2 : 0 ≤ t
    · rw [if_pos (show t ≥ 0 from c2), if_pos c2, if_pos (by omega), if_pos c2]
    · rw [if_neg (show ¬ t ≥ 0 from c2), if_neg c2]
theorem szMoveS_val (l : List S39) (hl : l.length ≤ maxLen) (a : Int) (ha0 : 0 ≤ a) (ha1 : a ≤ 1048576) : laws_szMoveS.f l a = some (if (l.length : Int) ≤ a then a - (l.length : Int) else (-1 : Int)) := by
  simp only [maxLen] at hl
  unfold laws_szMoveS.f
  rw [w64 (by omega) (by omega)]
  by_cases h : a - (l.length : Int) < 0
  · rw [if_pos h, if_neg (by omega)]
  · rw [if_neg h, if_pos (by omega)]
def toMv (l : List S39) : List S41 := l.map fun x => ⟨x.f0, x.f1⟩
theorem toMv_length (l : List S39) : (toMv l).length = l.length := by simp [toMv]
theorem toMoveS_ev (l : List S39) (hl : l.length ≤ 1048576) : Ev (fun k => laws_toMoveS.f k l) (toMv l) := by
  have key : ∀ (m : Nat) (i : Int) (y : List S41), 0 ≤ i → (l.length : Int) - i = m → y.length = l.length → (∀ j : Nat, j < i.toNat → y[j]? = (toMv l)[j]?) → Ev (fun k => laws_toMoveS.l0 k l y i) (toMv l) := by
    intro m
    induction m with
    | zero =>
      intro i y h0 hm hyl hj
      refine Ev.step (f := fun _ => some y) (fun k => by simp only [laws_toMoveS.l0]; rw [if_neg (by omega)]) ?_
      have : y = toMv l := by
        apply List.ext_getElem?
        intro j
        by_cases h : j < l.length
        · exact hj j (by omega)
        · rw [List.getElem?_eq_none (by omega), List.getElem?_eq_none (by rw [toMv_length]; omega)]
      rw [this]
      exact Ev.now _
    | succ m ih =>
      intro i y h0 hm hyl hj
      have hi : i.toNat < l.length := by omega
      refine Ev.step (f := fun k => laws_toMoveS.l0 k l (y.set i.toNat ⟨(rd_T39 l i).f0, (rd_T39 l i).f1⟩) (i + 1)) (fun k => ?_) ?_
      · simp only [laws_toMoveS.l0, laws_toMove.f, Option.bind_some]
        rw [if_pos (by omega), if_pos h0, if_pos (by omega), w64 (x := i + 1) (by omega) (by omega)]
      · refine ih (i + 1) _ (by omega) (by omega) (by rw [List.length_set]; exact hyl) (fun j hlt => ?_)
        by_cases e : j = i.toNat
        · subst e
          rw [List.getElem?_set_self (by omega)]
          simp only [toMv, List.getElem?_map, List.getElem?_eq_getElem hi, Option.map_some]
          unfold rd_T39
          rw [getD_eq z39 hi]
        · rw [List.getElem?_set_ne (fun e' => e e'.symm)]
          exact hj j (by omega)
  unfold laws_toMoveS.f
  refine Ev.ifT (by omega) (Ev.ifT (by omega) ?_)
  exact key l.length 0 _ (by omega) (by omega) (by simp) (fun j hj => absurd hj (by simp))
theorem eqMoveS_ev (l : List S41) (hl : l.length ≤ 1048576) : Ev (fun k => laws_eqMoveS.f k l l) true := by
  refine Ev.congr (fun k => ?_) (same_ev (l0 := laws_eqMoveS.l0) (fun k x i => by simp only [laws_eqMoveS.l0, laws_eqMove.f, if_true, Option.bind_some]) l (by omega))
  show laws_eqMoveS.f k l l = _
  unfold laws_eqMoveS.f
  rw [if_pos rfl]
theorem rd_set {l : List Int} {i j : Int} {x : Int} (h0 : 0 ≤ i) (h1 : i < l.length) (g0 : 0 ≤ j) : rd (l.set i.toNat x) j = if i = j then x else rd l j := by
  unfold rd
  rw [List.getD_eq_getElem?_getD, List.getD_eq_getElem?_getD]
  by_cases e : i = j
  · subst e
    rw [if_pos rfl, List.getElem?_set_self (by omega)]
    rfl
  · rw [if_neg e, List.getElem?_set_ne (by omega)]
theorem moved_good {s h : List Int} (hg : goodV s h = true) {f t : Int} (hm : isMv s.length f t = true) : goodV s (moved s h f t) = true := by
  obtain ⟨m1, m2, m3, m4, m5⟩ := isMv_le hm
  have he := (goodV_le hg).2.2.1
  have hr := fun {j : Int} (h0 : 0 ≤ j) (h1 : j < s.length) => good_room hg h0 h1
  have hlen := moved_len s h f t
  unfold goodV at hg ⊢
  simp only [Bool.and_eq_true, decide_eq_true_eq, allFrom_iff] at hg ⊢
  refine ⟨hg.1, by omega, hg.2.2.1, fun j h0 h1 => ?_⟩
  have hj : j < s.length := by omega
  have rj := hr h0 hj
  unfold moved
  try dsimp only
  have a0 : ∀ _ : 0 ≤ f, amt s h f t ≤ rd h f ∧ 0 ≤ amt s h f t := fun hf => by
    have rf := hr hf (by omega)
    unfold amt
    rw [if_neg (by omega)]
    by_cases ht : t < 0
    · rw [if_pos ht]; omega
    · have rt := hr (j := t) (by omega) (by omega)
      rw [if_neg ht]; unfold mn; split <;> omega
  have a1 : ∀ _ : 0 ≤ t, amt s h f t ≤ rd s t - rd h t ∧ 0 ≤ amt s h f t := fun ht => by
    have rt := hr ht (by omega)
    unfold amt
    by_cases hf : f < 0
    · rw [if_pos hf]; omega
    · have rf := hr (j := f) (by omega) (by omega)
      rw [if_neg hf, if_neg (by omega)]; unfold mn; split <;> omega
  by_cases hf : 0 ≤ f
  · have rf := hr hf (by omega)
    have b0 := a0 hf
    rw [if_pos hf, w64 (x := rd h f - amt s h f t) (by omega) (by omega)]
    by_cases ht : 0 ≤ t
    · have rt := hr ht (by omega)
      have b1 := a1 ht
      have e1 : rd (h.set f.toNat (rd h f - amt s h f t)) t = rd h t := by rw [rd_set hf (by omega) ht, if_neg m5]
      rw [if_pos ht, e1, w64 (x := rd h t + amt s h f t) (by omega) (by omega), rd_set ht (by rw [List.length_set]; omega) h0]
      by_cases c : t = j
      · subst c; rw [if_pos rfl]; omega
      · rw [if_neg c, rd_set hf (by omega) h0]
        by_cases c2 : f = j
        · subst c2; rw [if_pos rfl]; omega
        · rw [if_neg c2]; omega
    · rw [if_neg ht, rd_set hf (by omega) h0]
      by_cases c2 : f = j
      · subst c2; rw [if_pos rfl]; omega
      · rw [if_neg c2]; omega
  · rw [if_neg hf]
    by_cases ht : 0 ≤ t
    · have rt := hr ht (by omega)
      have b1 := a1 ht
      rw [if_pos ht, w64 (x := rd h t + amt s h f t) (by omega) (by omega), rd_set ht (by omega) h0]
      by_cases c : t = j
      · subst c; rw [if_pos rfl]; omega
      · rw [if_neg c]; omega
    · rw [if_neg ht]; omega
/-- whether all are moves -/
def okM (n : Nat) (l : List S41) : Bool := l.all fun x => isMv n x.f0 x.f1
theorem moveOk_eq (n : Nat) (hn : n ≤ 1048576) (x : S41) : moveOk n x = isMv n x.f0 x.f1 := by
  unfold moveOk isMv
  rw [w64 (x := (n : Int) - 1) (by omega) (by omega)]
theorem okM_eq (n : Nat) (hn : n ≤ 1048576) (l : List S41) : (!(l.any fun x => !moveOk n x)) = okM n l := by
  unfold okM
  rw [List.any_eq_not_all_not, Bool.not_not]
  congr 1
  funext x
  rw [Bool.not_not, moveOk_eq n hn]
theorem areMoves_ev (s h : List Int) (l : List S41) (hs : s.length ≤ 1048576) (hh : h.length ≤ 1048576) : Ev (fun k => impl_areMoves.f k s h l) (goodV s h && (decide ((l.length : Int) ≤ 100) && okM s.length l)) := by
  unfold impl_areMoves.f
  refine Ev.bind (areVessels_ev s h hs hh) ?_
  try dsimp only
  cases goodV s h with
  | true => rw [okM_eq _ hs]; exact Ev.ifT rfl (Ev.now _)
  | false => exact Ev.ifF (by decide) (Ev.now _)
theorem veMoves_ev (s h : List Int) (l : List S41) (hs : s.length ≤ 1048576) (hh : h.length ≤ 1048576) (hl : l.length ≤ 1048576) : Ev (fun k => spec_veMoves.f k s h l) (goodV s h && (decide ((l.length : Int) ≤ 100) && okM s.length l)) := by
  unfold spec_veMoves.f
  refine Ev.bind (veGood_ev s h hs hh) ?_
  try dsimp only
  cases goodV s h with
  | true =>
    refine Ev.ifT rfl ?_
    by_cases c : (l.length : Int) ≤ 100
    · rw [decide_eq_false (show ¬ (l.length : Int) > 100 by omega), decide_eq_true c, Bool.true_and, Bool.true_and]
      refine Ev.step (f := fun k => spec_veMoves.l0 k l (l.length : Int) 0 s h) (fun k => by simp only [spec_veMoves.j0, Bool.false_eq_true, if_false]) ?_
      refine all_ev (l0 := fun k x i => spec_veMoves.l0 k x (x.length : Int) i s h) z41 (fun x => isMv s.length x.f0 x.f1) (fun k x i h0 => ?_) l (by omega)
      show spec_veMoves.l0 (k + 1) x (x.length : Int) i s h = _
      simp only [spec_veMoves.l0, veMove_val (s.length : Int) _ _ (by omega) (by omega), Option.bind_some]
      by_cases hi : i < (x.length : Int)
      · rw [if_pos hi, if_pos h0, if_pos hi, if_pos hi]
        rfl
      · rw [if_neg hi, if_neg hi]
    · rw [decide_eq_true (show (l.length : Int) > 100 by omega), decide_eq_false c, Bool.false_and, Bool.and_false]
      exact Ev.step (f := fun _ => some false) (fun k => by simp only [spec_veMoves.j0, if_true]) (Ev.now _)
  | false =>
    exact Ev.ifF (by decide) (Ev.step (f := fun _ => some false) (fun k => by simp only [spec_veMoves.j0, if_true]) (Ev.now _))
/-- what is held behind all moves -/
def fin (s : List Int) : List Int → List S41 → List Int
  | h, [] => h
  | h, m :: ms => fin s (moved s h m.f0 m.f1) ms
theorem fin_len (s : List Int) : ∀ (l : List S41) (h : List Int), (fin s h l).length = h.length
  | [], _ => rfl
  | m :: ms, h => by rw [fin, fin_len s ms, moved_len]
/-- the states behind each move -/
def scan (s : List Int) : List Int → List S41 → List S26
  | _, [] => []
  | h, m :: ms => ⟨s, moved s h m.f0 m.f1⟩ :: scan s (moved s h m.f0 m.f1) ms
theorem scan_len (s : List Int) : ∀ (l : List S41) (h : List Int), (scan s h l).length = l.length
  | [], _ => rfl
  | m :: ms, h => by rw [scan, List.length_cons, scan_len s ms, List.length_cons]
theorem along_val (s : List Int) : ∀ (l : List S41) (h : List Int) (out : List S26), goodV s h = true → okM s.length l = true → spec_veAlong.l0 l s h out = some (out ++ scan s h l)
  | [], h, out, _, _ => by simp [spec_veAlong.l0, scan]
  | m :: ms, h, out, hg, hm => by
    simp only [okM, List.all_cons, Bool.and_eq_true] at hm
    simp only [spec_veAlong.l0, scan]
    rw [veMake_val s h hg m.f0 m.f1 hm.1, Option.bind_some]
    dsimp only
    rw [along_val s ms (moved s h m.f0 m.f1) _ (moved_good hg hm.1) hm.2, List.append_assoc]
    rfl
theorem veAlong_val (s h : List Int) (l : List S41) (hg : goodV s h = true) (hl : (l.length : Int) ≤ 100) (hm : okM s.length l = true) : spec_veAlong.f s h l = some (⟨s, h⟩ :: scan s h l) := by
  have hv := goodV_le hg
  unfold spec_veAlong.f
  rw [if_pos (by omega), along_val s l h _ hg hm]
  rfl
theorem scan_last (s : List Int) : ∀ (l : List S41) (h : List Int), (⟨s, h⟩ :: scan s h l : List S26).getD l.length z26 = ⟨s, fin s h l⟩
  | [], h => rfl
  | m :: ms, h => by
    rw [List.length_cons, List.getD_cons_succ]
    exact scan_last s ms (moved s h m.f0 m.f1)
theorem scan_get (s : List Int) : ∀ (l : List S41) (h : List Int) (i : Nat), i ≤ l.length → (⟨s, h⟩ :: scan s h l : List S26).getD i z26 = ⟨s, fin s h (l.take i)⟩
  | l, h, 0, _ => by rw [List.take_zero]; rfl
  | m :: ms, h, i + 1, hi => by
    rw [List.getD_cons_succ, List.take_succ_cons, fin]
    exact scan_get s ms (moved s h m.f0 m.f1) i (by simpa using hi)
theorem fin_take (s : List Int) : ∀ (l : List S41) (h : List Int) (i : Nat) (hi : i < l.length), fin s h (l.take (i + 1)) = moved s (fin s h (l.take i)) (l[i]).f0 (l[i]).f1
  | m :: ms, h, 0, _ => by simp [fin]
  | m :: ms, h, i + 1, hi => by
    rw [List.take_succ_cons, fin, List.take_succ_cons, fin]
    exact fin_take s ms (moved s h m.f0 m.f1) i (by simpa using hi)
theorem okM_at {n : Nat} {l : List S41} (h : okM n l = true) {i : Nat} (hi : i < l.length) : isMv n (l[i]).f0 (l[i]).f1 = true := by
  unfold okM at h
  exact List.all_eq_true.mp h _ (List.getElem_mem hi)
theorem fin_good {s : List Int} : ∀ (l : List S41) (h : List Int) (i : Nat), goodV s h = true → okM s.length l = true → goodV s (fin s h (l.take i)) = true
  | [], h, i, hg, _ => by rw [List.take_nil]; exact hg
  | m :: ms, h, 0, hg, _ => by rw [List.take_zero]; exact hg
  | m :: ms, h, i + 1, hg, hm => by
    rw [List.take_succ_cons, fin]
    simp only [okM, List.all_cons, Bool.and_eq_true] at hm
    exact fin_good ms _ i (moved_good hg hm.1) hm.2
/-- ascending numbers in moves -/
theorem markMoveS_ev (l : List S41) (q : Int) (hq0 : 0 ≤ q) (hq1 : q ≤ 100000000) (hl : l.length ≤ 1048576) : ∃ z, Ev (fun k => laws_markMoveS.f k l q) (q + 2 * (l.length : Int), z) := by
  have key : ∀ (m : Nat) (x : List S41) (i : Int), x.length = l.length → 0 ≤ i → (l.length : Int) - i = m → ∃ z, Ev (fun k => laws_markMoveS.l0 k x (q + 2 * i) i) (q + 2 * (l.length : Int), z) := by
    intro m
    induction m with
    | zero =>
      intro x i hx h0 hm
      refine ⟨x, Ev.step (f := fun _ => some (q + 2 * i, x)) (fun k => by simp only [laws_markMoveS.l0]; rw [if_neg (by omega)]) ?_⟩
      rw [show q + 2 * i = q + 2 * (l.length : Int) by omega]
      exact Ev.now _
    | succ m ih =>
      intro x i hx h0 hm
      have hi : i.toNat < x.length := by omega
      have := ih ((x.set i.toNat ⟨q + 2 * i, (rd_T41 x i).f1⟩).set i.toNat ⟨(rd_T41 (x.set i.toNat ⟨q + 2 * i, (rd_T41 x i).f1⟩) i).f0, q + 2 * i + 1⟩) (i + 1) (by rw [List.length_set, List.length_set]; exact hx) (by omega) (by omega)
      obtain ⟨z, hz⟩ := this
      refine ⟨z, Ev.step (fun k => ?_) hz⟩
      simp only [laws_markMoveS.l0, Option.bind_some]
      rw [if_pos (by omega), if_pos h0, w64 (x := q + 2 * i + 1) (by omega) (by omega), w64 (x := q + 2 * i + 1 + 1) (by omega) (by omega), w64 (x := i + 1) (by omega) (by omega), show q + 2 * i + 1 + 1 = q + 2 * (i + 1) by omega]
  have := key l.length l 0 rfl (by omega) (by omega)
  rw [Int.mul_zero, Int.add_zero] at this
  exact this
theorem markIntS_ev (l : List Int) (q : Int) (hq0 : 0 ≤ q) (hq1 : q ≤ 100000000) (hl : l.length ≤ 1048576) : Ev (fun k => laws_markIntS.f k l q) (q + (l.length : Int), marks q l.length) := by
  refine mark_ev (l0 := laws_markIntS.l0) (fun k x q i h0 => ?_) q hq0 (by omega) l (by omega)
  simp only [laws_markIntS.l0, if_pos h0]
theorem markVessels_ev (s h : List Int) (q : Int) (hq0 : 0 ≤ q) (hq1 : q + (s.length : Int) ≤ 100000000) (hs : s.length ≤ 1048576) (hh : h.length ≤ 1048576) : Ev (fun k => laws_markVessels.f k s h q) (q + (s.length : Int) + (h.length : Int), marks q s.length, marks (q + (s.length : Int)) h.length) := by
  unfold laws_markVessels.f
  refine Ev.bind (markIntS_ev s q hq0 (by omega) hs) ?_
  try dsimp only
  refine Ev.bind (markIntS_ev h (q + (s.length : Int)) (by omega) hq1 hh) ?_
  exact Ev.now _
theorem heldIntS_ev (q : Int) (n : Nat) (hq0 : 0 ≤ q) (hq1 : q ≤ 100000000) (hl : n ≤ 1048576) : Ev (fun k => laws_heldIntS.f k (marks q n) q) (q + (n : Int)) := by
  refine held_ev (l0 := laws_heldIntS.l0) (fun k x q i h0 h1 h2 => ?_) (fun k x q i h1 => ?_) q hq0 (by omega) n (by omega)
  · simp only [laws_heldIntS.l0]
    rw [if_pos h1, if_pos h0, if_pos (show rd x i = q from h2)]
  · simp only [laws_heldIntS.l0]
    rw [if_neg h1]
/-- ascending numbers in rows of vessels -/
def totV : List S26 → Nat
  | [] => 0
  | x :: xs => x.f0.length + x.f1.length + totV xs
def marksVS (q : Int) : List S26 → List S26
  | [] => []
  | x :: xs => ⟨marks q x.f0.length, marks (q + (x.f0.length : Int)) x.f1.length⟩ :: marksVS (q + (x.f0.length : Int) + (x.f1.length : Int)) xs
theorem vs_at (pre : List S26) (x : S26) (rest : List S26) : rd_T26 (pre ++ x :: rest) (pre.length : Int) = x := by
  unfold rd_T26
  rw [Int.toNat_natCast, List.getD_eq_getElem?_getD, List.getElem?_append_right (Nat.le_refl _), Nat.sub_self]
  rfl
theorem vsnoc_len (p : List S26) (x : S26) : (p ++ [x]).length = p.length + 1 := by simp
theorem markVS_loop : ∀ (rest pre : List S26) (q : Int), 0 ≤ q → totV rest ≤ 1048576 → q + (totV rest : Int) ≤ 100000000 → pre.length + rest.length ≤ 1048576 → Ev (fun k => laws_markVesselsS.l0 k (pre ++ rest) q (pre.length : Int)) (q + (totV rest : Int), pre ++ marksVS q rest)
  | [], pre, q, h0, h1, h3, h2 => by
    refine Ev.step (f := fun _ => some (q, pre ++ [])) (fun k => by simp only [laws_markVesselsS.l0]; rw [if_neg (by simp)]) ?_
    have : q + ((totV ([] : List S26) : Nat) : Int) = q := by simp [totV]
    rw [this]
    exact Ev.now _
  | x :: rest, pre, q, h0, h1, h3, h2 => by
    simp only [totV, List.length_cons] at h1 h2 h3
    have ih := markVS_loop rest (pre ++ [⟨marks q x.f0.length, marks (q + (x.f0.length : Int)) x.f1.length⟩]) (q + (x.f0.length : Int) + (x.f1.length : Int)) (by omega) (by omega) (by omega) (by rw [vsnoc_len]; omega)
    refine Ev.step (f := fun k => (laws_markIntS.f k x.f0 q).bind fun bt => (laws_markIntS.f k x.f1 bt.1).bind fun bu => laws_markVesselsS.l0 k ((pre ++ x :: rest).set pre.length ⟨bt.2, bu.2⟩) bu.1 ((pre.length + 1 : Nat) : Int)) (fun k => ?_) ?_
    · simp only [laws_markVesselsS.l0]
      rw [if_pos (by rw [List.length_append, List.length_cons]; omega), if_pos (by omega), vs_at, w64 (x := (pre.length : Int) + 1) (by omega) (by omega), Int.toNat_natCast]
      rfl
    · refine Ev.bind (markIntS_ev x.f0 q (by omega) (by omega) (by omega)) (Ev.bind (markIntS_ev x.f1 (q + (x.f0.length : Int)) (by omega) (by omega) (by omega)) ?_)
      dsimp only
      rw [List.append_assoc, vsnoc_len] at ih
      rw [List.set_append_right _ _ (Nat.le_refl _), Nat.sub_self, List.set_cons_zero, show q + ((totV (x :: rest) : Nat) : Int) = q + (x.f0.length : Int) + (x.f1.length : Int) + (totV rest : Int) by simp only [totV]; omega]
      have e : pre ++ marksVS q (x :: rest) = pre ++ [⟨marks q x.f0.length, marks (q + (x.f0.length : Int)) x.f1.length⟩] ++ marksVS (q + (x.f0.length : Int) + (x.f1.length : Int)) rest := by simp [marksVS]
      rw [e]
      exact ih
theorem heldVS_loop : ∀ (rest pre : List S26) (q : Int), 0 ≤ q → totV rest ≤ 1048576 → q + (totV rest : Int) ≤ 100000000 → pre.length + rest.length ≤ 1048576 → Ev (fun k => laws_heldVesselsS.l0 k (pre ++ marksVS q rest) q (pre.length : Int)) (q + (totV rest : Int))
  | [], pre, q, h0, h1, h3, h2 => by
    refine Ev.step (f := fun _ => some q) (fun k => by simp only [laws_heldVesselsS.l0]; rw [if_neg (by simp [marksVS])]) ?_
    have : q + ((totV ([] : List S26) : Nat) : Int) = q := by simp [totV]
    rw [this]
    exact Ev.now _
  | x :: rest, pre, q, h0, h1, h3, h2 => by
    simp only [totV, List.length_cons] at h1 h2 h3
    have ih := heldVS_loop rest (pre ++ [⟨marks q x.f0.length, marks (q + (x.f0.length : Int)) x.f1.length⟩]) (q + (x.f0.length : Int) + (x.f1.length : Int)) (by omega) (by omega) (by omega) (by rw [vsnoc_len]; omega)
    rw [List.append_assoc, vsnoc_len] at ih
    refine Ev.step (f := fun k => (laws_heldIntS.f k (marks q x.f0.length) q).bind fun t => if t < 0 then some (-1) else (laws_heldIntS.f k (marks (q + (x.f0.length : Int)) x.f1.length) t).bind fun u => if u < 0 then some (-1) else laws_heldVesselsS.l0 k (pre ++ marksVS q (x :: rest)) u ((pre.length + 1 : Nat) : Int)) (fun k => ?_) ?_
    · simp only [laws_heldVesselsS.l0]
      rw [if_pos (by simp only [marksVS, List.length_append, List.length_cons]; omega), if_pos (by omega), w64 (x := (pre.length : Int) + 1) (by omega) (by omega)]
      simp only [marksVS]
      rw [vs_at]
      rfl
    · refine Ev.bind (heldIntS_ev q x.f0.length (by omega) (by omega) (by omega)) ?_
      refine Ev.ifF (by omega) (Ev.bind (heldIntS_ev (q + (x.f0.length : Int)) x.f1.length (by omega) (by omega) (by omega)) ?_)
      refine Ev.ifF (by omega) ?_
      rw [show q + ((totV (x :: rest) : Nat) : Int) = q + (x.f0.length : Int) + (x.f1.length : Int) + (totV rest : Int) by simp only [totV]; omega]
      exact ih
theorem markVS_ev (l : List S26) (h1 : totV l ≤ 1048576) (h2 : l.length ≤ 1048576) : Ev (fun k => laws_markVesselsS.f k l 1) (1 + (totV l : Int), marksVS 1 l) := markVS_loop l [] 1 (by omega) (by omega) (by omega) (by simpa using h2)
theorem heldVS_ev (l : List S26) (h1 : totV l ≤ 1048576) (h2 : l.length ≤ 1048576) : Ev (fun k => laws_heldVesselsS.f k (marksVS 1 l) 1) (1 + (totV l : Int)) := heldVS_loop l [] 1 (by omega) (by omega) (by omega) (by simpa using h2)
theorem eqVS_loop : ∀ (rest pre : List S26), (∀ x ∈ rest, x.f0.length ≤ 1048576 ∧ x.f1.length ≤ 1048576) → pre.length + rest.length ≤ 1048576 → Ev (fun k => laws_eqVesselsS.l0 k (pre ++ rest) (pre ++ rest) (pre.length : Int)) true
  | [], pre, _, _ => by
    exact Ev.step (f := fun _ => some true) (fun k => by simp only [laws_eqVesselsS.l0]; rw [if_neg (by simp)]) (Ev.now _)
  | x :: rest, pre, hx, h2 => by
    simp only [List.length_cons] at h2
    have h := hx x List.mem_cons_self
    have ih := eqVS_loop rest (pre ++ [x]) (fun y hy => hx y (List.mem_cons_of_mem _ hy)) (by rw [vsnoc_len]; omega)
    rw [List.append_assoc, vsnoc_len] at ih
    have hlen : (pre ++ x :: rest).length = pre.length + (rest.length + 1) := by rw [List.length_append, List.length_cons]
    refine Ev.step (f := fun k => (laws_eqVessels.f k x.f0 x.f1 x.f0 x.f1).bind fun t => if t = true then laws_eqVesselsS.l0 k (pre ++ x :: rest) (pre ++ x :: rest) ((pre.length + 1 : Nat) : Int) else some false) (fun k => ?_) ?_
    · simp only [laws_eqVesselsS.l0]
      rw [if_pos (by omega), if_pos (by omega), if_pos (by omega), vs_at, w64 (x := (pre.length : Int) + 1) (by omega) (by omega)]
      rfl
    · exact Ev.bind (eqVessels_ev x.f0 x.f1 h.1 h.2) (Ev.ifT rfl ih)
theorem eqVS_ev (l : List S26) (hx : ∀ x ∈ l, x.f0.length ≤ 1048576 ∧ x.f1.length ≤ 1048576) (h2 : l.length ≤ 1048576) : Ev (fun k => laws_eqVesselsS.f k l l) true := by
  unfold laws_eqVesselsS.f
  exact Ev.ifT rfl (eqVS_loop l [] hx (by simpa using h2))
theorem totV_le {n : Nat} : ∀ (l : List S26), (∀ x ∈ l, x.f0.length ≤ n ∧ x.f1.length ≤ n) → totV l ≤ l.length * (2 * n)
  | [], _ => by simp [totV]
  | x :: xs, h => by
    have h1 := h x List.mem_cons_self
    have h2 := totV_le xs (fun y hy => h y (List.mem_cons_of_mem _ hy))
    simp only [totV, List.length_cons, Nat.add_mul, Nat.one_mul]
    omega
/-- all states -/
def states (s h : List Int) (l : List S41) : List S26 := ⟨s, h⟩ :: scan s h l
theorem states_len (s h : List Int) (l : List S41) : (states s h l).length = l.length + 1 := by
  unfold states
  rw [List.length_cons, scan_len]
theorem states_take {s h : List Int} {l : List S41} {i : Nat} (hi : i < l.length) : (states s h l).take (i + 2) = (states s h l).take (i + 1) ++ [⟨s, moved s (fin s h (l.take i)) (l[i]).f0 (l[i]).f1⟩] := by
  have hl := states_len s h l
  rw [List.take_succ_eq_append_getElem (by omega)]
  congr 2
  have h1 := scan_get s l h (i + 1) (by omega)
  rw [fin_take s l h i hi] at h1
  rw [← h1, List.getD_eq_getElem?_getD]
  show _ = ((states s h l)[i + 1]?).getD _
  rw [List.getElem?_eq_getElem (by omega)]
  rfl
theorem states_rd {s h : List Int} {l : List S41} {i : Nat} (hi : i ≤ l.length) : rd_T26 ((states s h l).take (i + 1)) (i : Int) = ⟨s, fin s h (l.take i)⟩ := by
  unfold rd_T26
  rw [Int.toNat_natCast, ← scan_get s l h i hi, List.getD_eq_getElem?_getD, List.getD_eq_getElem?_getD, List.getElem?_take_of_lt (by omega)]
  rfl
theorem implStates_loop (s h : List Int) (l : List S41) (hl : (l.length : Int) ≤ 100) (hg : goodV s h = true) (hm : okM s.length l = true) : ∀ (n i : Nat), l.length - i = n → i ≤ l.length → Ev (fun k => impl_StatesAlong.l0 k ((states s h l).take (i + 1)) l (l.length : Int) (i : Int)) (states s h l, true) := by
  have hsl := states_len s h l
  intro n
  induction n with
  | zero =>
    intro i hn hi
    refine Ev.step (f := fun _ => some ((states s h l).take (i + 1), true)) (fun k => by simp only [impl_StatesAlong.l0]; rw [if_neg (by omega)]) ?_
    rw [List.take_of_length_le (by omega)]
    exact Ev.now _
  | succ n ih =>
    intro i hn hi
    have hlt : i < l.length := by omega
    have hx := okM_at hm hlt
    have hgi := fin_good l h i hg hm
    have e1 : rd_T41 l (i : Int) = l[i] := by unfold rd_T41; rw [Int.toNat_natCast]; exact getD_eq _ hlt
    have ih2 := ih (i + 1) (by omega) (by omega)
    rw [states_take hlt] at ih2
    have htl : ((states s h l).take (i + 1)).length = i + 1 := by rw [List.length_take]; omega
    refine Ev.step (fun k => ?_) ih2
    simp only [impl_StatesAlong.l0]
    rw [if_pos (by omega), if_pos (by omega), if_pos (by omega), if_pos (by omega), e1, states_rd (by omega)]
    dsimp only
    rw [behind_val s _ hgi _ _ hx, Option.bind_some, if_pos (by omega), w64 (x := (i : Int) + 1) (by omega) (by omega)]
    rfl
def answer (s h : List Int) (l : List S41) : List S26 × Bool := if (goodV s h && (decide ((l.length : Int) ≤ 100) && okM s.length l)) = true then (states s h l, true) else ([], false)
theorem spec_ev (s h : List Int) (l : List S41) (hs : s.length ≤ 1048576) (hh : h.length ≤ 1048576) (hl : l.length ≤ 1048576) : Ev (fun k => spec_StatesAlong.f k s h l) (answer s h l) := by
  unfold spec_StatesAlong.f answer
  refine Ev.bind (veMoves_ev s h l hs hh hl) ?_
  cases hc : (goodV s h && (decide ((l.length : Int) ≤ 100) && okM s.length l)) with
  | true =>
    rw [show (if true = true then (states s h l, true) else (([] : List S26), false)) = (states s h l, true) from rfl]
    simp only [Bool.and_eq_true, decide_eq_true_eq] at hc
    rw [veAlong_val s h l hc.1 hc.2.1 hc.2.2]
    exact Ev.ifT rfl (Ev.now_ (Ev.now _))
  | false =>
    rw [show (if false = true then (states s h l, true) else (([] : List S26), false)) = (([] : List S26), false) from rfl]
    exact Ev.ifF (by decide) (Ev.now _)
theorem impl_ev (s h : List Int) (l : List S41) (hs : s.length ≤ 1048576) (hh : h.length ≤ 1048576) : Ev (fun k => impl_StatesAlong.f k s h l) (answer s h l) := by
  unfold impl_StatesAlong.f answer
  refine Ev.bind (areMoves_ev s h l hs hh) ?_
  cases hc : (goodV s h && (decide ((l.length : Int) ≤ 100) && okM s.length l)) with
  | true =>
    rw [if_pos rfl]
    simp only [Bool.and_eq_true, decide_eq_true_eq] at hc
    refine Ev.ifT rfl ?_
    rw [own_val s h hs hh]
    refine Ev.now_ ?_
    exact implStates_loop s h l hc.2.1 hc.1 hc.2.2 l.length 0 (by omega) (by omega)
  | false => rw [if_neg (by decide)]; exact Ev.ifF (by decide) (Ev.now _)
theorem scan_rows (s : List Int) : ∀ (l : List S41) (h : List Int), ∀ x ∈ scan s h l, x.f0.length = s.length ∧ x.f1.length = h.length
  | [], _, x, hx => by cases hx
  | m :: ms, h, x, hx => by
    simp only [scan, List.mem_cons] at hx
    rcases hx with rfl | hx
    · exact ⟨rfl, moved_len s h m.f0 m.f1⟩
    · have := scan_rows s ms _ x hx
      rw [moved_len] at this
      exact this
theorem answer_rows (s h : List Int) (l : List S41) : (answer s h l).1.length ≤ 101 ∧ ∀ x ∈ (answer s h l).1, x.f0.length ≤ 5 ∧ x.f1.length ≤ 5 := by
  unfold answer
  cases hc : (goodV s h && (decide ((l.length : Int) ≤ 100) && okM s.length l)) with
  | false => rw [if_neg (by decide)]; exact ⟨by simp, fun x hx => by cases hx⟩
  | true =>
    rw [if_pos rfl]
    simp only [Bool.and_eq_true, decide_eq_true_eq] at hc
    have hv := goodV_le hc.1
    refine ⟨by show (states s h l).length ≤ 101; rw [states_len]; omega, fun x hx => ?_⟩
    have hx : x ∈ states s h l := hx
    unfold states at hx
    rcases List.mem_cons.1 hx with rfl | hx
    · dsimp only; omega
    · have := scan_rows s l h x hx; omega
theorem FnExactStatesAlong : ∀ (l0_0 : (List Int)) (l0_1 : (List Int)) (l1 : (List S39)), (l0_0.length ≤ maxLen ∧ ∀ y4 ∈ l0_0, (Lit.int .i64 y4).wf = true) → (l0_1.length ≤ maxLen ∧ ∀ y4 ∈ l0_1, (Lit.int .i64 y4).wf = true) → (l1.length ≤ maxLen ∧ ∀ y2 ∈ l1, ((Lit.int .i64 y2.f0).wf = true) ∧ ((Lit.int .i64 y2.f1).wf = true)) → ∃ k, laws_FnExactStatesAlong.f k l0_0 l0_1 l1 = some true := by
  intro s h l hs hh hl0
  have hl1 : l.length ≤ maxLen := by first | exact hl0.1 | exact hl0
  refine Ev.rounds (?_ : Ev (fun k => laws_FnExactStatesAlong.f k s h l) true)
  unfold laws_FnExactStatesAlong.f
  rw [szVessels_val s h hs.1 hh.1 1048576 (by omega) (by omega)]
  refine Ev.now_ ?_
  by_cases hl : (s.length : Int) + (h.length : Int) ≤ 1048576
  · rw [if_pos hl]
    refine Ev.ifF (by omega) ?_
    rw [szMoveS_val l hl1 _ (by omega) (by omega)]
    refine Ev.now_ ?_
    by_cases hl2 : (l.length : Int) ≤ 1048576 - (s.length : Int) - (h.length : Int)
    · rw [if_pos hl2]
      refine Ev.ifF (by omega) ?_
      have hq : (toMv l).length ≤ 1048576 := by rw [toMv_length]; omega
      have hS := spec_ev s h (toMv l) (by omega) (by omega) hq
      have hI := impl_ev s h (toMv l) (by omega) (by omega)
      have hT := toMoveS_ev l (by omega)
      have hE := eqMoveS_ev (toMv l) hq
      have hR := answer_rows s h (toMv l)
      obtain ⟨z, hM⟩ := markMoveS_ev (toMv l) (1 + (s.length : Int) + (h.length : Int)) (by omega) (by omega) hq
      generalize toMv l = m at hS hI hT hE hq hR hM
      generalize answer s h m = r at hS hI hR
      obtain ⟨g, b⟩ := r
      dsimp only at hR
      have ht := totV_le g hR.2
      have ht2 : totV g ≤ 1010 := Nat.le_trans ht (by have := Nat.mul_le_mul_right 10 hR.1; omega)
      have hr : ∀ x ∈ g, x.f0.length ≤ 1048576 ∧ x.f1.length ≤ 1048576 := fun x hx => by have := hR.2 x hx; omega
      refine Ev.bind (toVessels_ev s h (by omega) (by omega)) ?_
      refine Ev.bind hT ?_
      refine Ev.bind hS ?_
      refine Ev.bind hI ?_
      refine Ev.bind (eqVS_ev g hr (by omega)) ?_
      refine Ev.ifT ⟨rfl, rfl⟩ ?_
      refine Ev.bind (eqVessels_ev s h (by omega) (by omega)) ?_
      refine Ev.ifT rfl ?_
      refine Ev.bind hE ?_
      refine Ev.ifT rfl ?_
      refine Ev.bind (markVessels_ev s h 1 (by omega) (by omega) (by omega) (by omega)) ?_
      refine Ev.bind hM ?_
      refine Ev.ifF (by dsimp only; omega) ?_
      refine Ev.bind (markVS_ev g (by omega) (by omega)) ?_
      refine Ev.bind (heldVS_ev g (by omega) (by omega)) ?_
      refine Ev.ifF (by omega) ?_
      exact Ev.ifT rfl (Ev.now _)
    · rw [if_neg hl2]
      exact Ev.ifT (by decide) (Ev.now _)
  · rw [if_neg hl]
    exact Ev.ifT (by decide) (Ev.now _)

end Go.Proofs.Ytobkbpoamicjgaa.Pure

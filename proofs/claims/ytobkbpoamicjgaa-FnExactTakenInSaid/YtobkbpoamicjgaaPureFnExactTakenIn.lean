/- The pure statement of the law FnExactTakenIn: what its printed functions compute is true for every input. No conditions. -/
import Derived.Test.YtobkbpoamicjgaaPFnExactTakenInx8
import Derived.Test.YtobkbpoamicjgaaPl
namespace Go.Proofs.Ytobkbpoamicjgaa.Pure
open Go.RowKit Go.Proofs.Ytobkbpoamicjgaa.PFnExactTakenIn Go.Proofs.YtobkbpoamicjgaaW.PrintWords Go.Proofs.YtobkbpoamicjgaaW.PrintLast Go.Proofs.Ytobkbpoamicjgaa.Pl
set_option linter.unusedVariables false
set_option linter.unusedSimpArgs false

theorem within_val (x a b : Int) : impl_within.f x a b = some (decide (a ≤ x ∧ x ≤ b)) := by
  unfold impl_within.f
  by_cases h : a ≤ x <;> simp [h]
theorem in_val (x a b : Int) : spec_l1In.f x a b = some (decide (a ≤ x ∧ x ≤ b)) := within_val x a b
/-- all elements lie in some bounds -/
def allIn (l : List Int) (a b : Int) : Bool := l.all fun x => decide (a ≤ x ∧ x ≤ b)
theorem areWithin_val (l : List Int) (a b : Int) : impl_areWithin.f l a b = some (allIn l a b) := by
  unfold impl_areWithin.f allIn
  congr 1
  rw [List.any_eq_not_all_not, Bool.not_not]
  congr 1
  funext x
  simp
theorem l1All_ev (l : List Int) (a b : Int) (hl : l.length ≤ 1048576) : Ev (fun k => spec_l1All.f k l a b) (allIn l a b) := by
  refine all_ev (l0 := fun k x i => spec_l1All.l0 k a b x (x.length : Int) i) 0 (fun x => decide (a ≤ x ∧ x ≤ b)) (fun k x i h0 => ?_) l (by omega)
  show spec_l1All.l0 (k + 1) a b x (x.length : Int) i = _
  simp only [spec_l1All.l0, in_val, Option.bind_some]
  by_cases hi : i < (x.length : Int)
  · rw [if_pos hi, if_pos h0, if_pos hi, if_pos hi]
    rfl
  · rw [if_neg hi, if_neg hi]
/-- vessels -/
def goodV (s h : List Int) : Bool := decide (1 ≤ (s.length : Int) ∧ (s.length : Int) ≤ 5) && (decide ((h.length : Int) = s.length) && (allIn s 1 60 && allFrom (fun i => decide (0 ≤ rd h i ∧ rd h i ≤ rd s i)) h.length 0))
theorem goodV_le {s h : List Int} (hg : goodV s h = true) : 1 ≤ s.length ∧ s.length ≤ 5 ∧ h.length = s.length ∧ (∀ x ∈ s, 1 ≤ x ∧ x ≤ 60) ∧ ∀ j : Int, 0 ≤ j → j < h.length → 0 ≤ rd h j ∧ rd h j ≤ rd s j := by
  unfold goodV allIn at hg
  simp only [Bool.and_eq_true, decide_eq_true_eq, List.all_eq_true, allFrom_iff] at hg
  exact ⟨by omega, by omega, by omega, hg.2.2.1, fun j h0 h1 => hg.2.2.2 j h0 (by omega)⟩
theorem areVessels_ev (s h : List Int) (hs : s.length ≤ 1048576) (hh : h.length ≤ 1048576) : Ev (fun k => impl_AreVessels.f k s h) (goodV s h) := by
  unfold impl_AreVessels.f goodV
  simp only [within_val, areWithin_val, Option.bind_some]
  by_cases h1 : 1 ≤ (s.length : Int) ∧ (s.length : Int) ≤ 5
  · rw [decide_eq_true h1]
    refine Ev.ifT rfl ?_
    by_cases h2 : (h.length : Int) = s.length
    · rw [decide_eq_true h2]
      refine Ev.ifT h2 ?_
      cases allIn s 1 60 with
      | true =>
        refine Ev.step (f := fun k => impl_AreVessels.l0 k h (h.length : Int) 0 s h) (fun k => by simp only [impl_AreVessels.j0, Bool.not_true, Bool.false_eq_true, if_false]) ?_
        refine allFrom_ev (l0 := fun k i => impl_AreVessels.l0 k h (h.length : Int) i s h) (by omega) (fun k i h0 => ?_)
        show impl_AreVessels.l0 (k + 1) h (h.length : Int) i s h = _
        simp only [impl_AreVessels.l0, within_val, Option.bind_some]
        by_cases hi : i < (h.length : Int)
        · rw [if_pos hi, if_pos h0, if_pos hi, if_pos (by omega), if_pos hi]
        · rw [if_neg hi, if_neg hi]
      | false => exact Ev.step (f := fun _ => some false) (fun k => by simp only [impl_AreVessels.j0, Bool.not_false, if_true]) (Ev.now _)
    · rw [decide_eq_false h2]
      exact Ev.ifF h2 (Ev.step (f := fun _ => some false) (fun k => by simp only [impl_AreVessels.j0, if_true]) (Ev.now _))
  · rw [decide_eq_false h1]
    exact Ev.ifF (by decide) (Ev.step (f := fun _ => some false) (fun k => by simp only [impl_AreVessels.j0, if_true]) (Ev.now _))
theorem veGood_ev (s h : List Int) (hs : s.length ≤ 1048576) (hh : h.length ≤ 1048576) : Ev (fun k => spec_veGood.f k s h) (goodV s h) := by
  unfold spec_veGood.f goodV
  simp only [in_val, Option.bind_some]
  by_cases h1 : 1 ≤ (s.length : Int) ∧ (s.length : Int) ≤ 5
  · rw [decide_eq_true h1]
    refine Ev.ifT rfl ?_
    by_cases h2 : (h.length : Int) = s.length
    · rw [decide_eq_true h2]
      refine Ev.ifT h2 (Ev.bind (l1All_ev s 1 60 hs) ?_)
      try dsimp only
      cases allIn s 1 60 with
      | true =>
        refine Ev.step (f := fun k => spec_veGood.l0 k h (h.length : Int) 0 s h) (fun k => by simp only [spec_veGood.j0, Bool.not_true, Bool.false_eq_true, if_false]) ?_
        refine allFrom_ev (l0 := fun k i => spec_veGood.l0 k h (h.length : Int) i s h) (by omega) (fun k i h0 => ?_)
        show spec_veGood.l0 (k + 1) h (h.length : Int) i s h = _
        simp only [spec_veGood.l0, in_val, Option.bind_some]
        by_cases hi : i < (h.length : Int)
        · rw [if_pos hi, if_pos h0, if_pos hi, if_pos (by omega), if_pos hi]
        · rw [if_neg hi, if_neg hi]
      | false => exact Ev.step (f := fun _ => some false) (fun k => by simp only [spec_veGood.j0, Bool.not_false, if_true]) (Ev.now _)
    · rw [decide_eq_false h2]
      exact Ev.ifF h2 (Ev.step (f := fun _ => some false) (fun k => by simp only [spec_veGood.j0, if_true]) (Ev.now _))
  · rw [decide_eq_false h1]
    exact Ev.ifF (by decide) (Ev.step (f := fun _ => some false) (fun k => by simp only [spec_veGood.j0, if_true]) (Ev.now _))
theorem toIntS_ev (l : List Int) (hl : l.length ≤ 1048576) : Ev (fun k => laws_toIntS.f k l) l := by
  refine Ev.congr (fun k => ?_) (copy_ev 0 (l0 := laws_toIntS.l0) (fun _ _ _ _ => rfl) l 0 (by omega))
  show laws_toIntS.f k l = _
  unfold laws_toIntS.f
  rw [if_pos (by omega), if_pos (by omega)]
theorem eqIntS_ev (l : List Int) (hl : l.length ≤ 1048576) : Ev (fun k => laws_eqIntS.f k l l) true := by
  refine Ev.congr (fun k => ?_) (same_ev (l0 := laws_eqIntS.l0) (fun k x i => by simp only [laws_eqIntS.l0, if_true]) l (by omega))
  show laws_eqIntS.f k l l = _
  unfold laws_eqIntS.f
  rw [if_pos rfl]
theorem szIntS_val (l : List Int) (a : Int) (hl : l.length ≤ maxLen) (ha0 : 0 ≤ a) (ha1 : a ≤ 1048576) : laws_szIntS.f l a = some (if (l.length : Int) ≤ a then a - (l.length : Int) else (-1 : Int)) := by
  simp only [maxLen] at hl
  unfold laws_szIntS.f
  rw [w64 (by omega) (by omega)]
  by_cases h : a - (l.length : Int) < 0
  · rw [if_pos h, if_neg (by omega)]
  · rw [if_neg h, if_pos (by omega)]
theorem szVessels_val (s h : List Int) (hs : s.length ≤ maxLen) (hh : h.length ≤ maxLen) (a : Int) (ha0 : 0 ≤ a) (ha1 : a ≤ 1048576) : laws_szVessels.f s h a = some (if (s.length : Int) + (h.length : Int) ≤ a then a - (s.length : Int) - (h.length : Int) else (-1 : Int)) := by
  unfold laws_szVessels.f
  rw [szIntS_val s a hs ha0 ha1, Option.bind_some]
  by_cases h1 : (s.length : Int) ≤ a
  · rw [if_pos h1, if_neg (by omega), szIntS_val h _ hh (by omega) (by omega), Option.bind_some]
    by_cases h2 : (h.length : Int) ≤ a - (s.length : Int)
    · rw [if_pos h2, if_neg (by omega), if_pos (by omega)]
    · rw [if_neg h2, if_pos (by omega), if_neg (by omega)]
  · rw [if_neg h1, if_pos (by omega), if_neg (by omega)]
theorem toVessels_ev (s h : List Int) (hs : s.length ≤ 1048576) (hh : h.length ≤ 1048576) : Ev (fun k => laws_toVessels.f k s h) (s, h) := by
  unfold laws_toVessels.f
  refine Ev.bind (toIntS_ev s hs) ?_
  try dsimp only
  refine Ev.bind (toIntS_ev h hh) ?_
  exact Ev.now _
theorem eqVessels_ev (s h : List Int) (hs : s.length ≤ 1048576) (hh : h.length ≤ 1048576) : Ev (fun k => laws_eqVessels.f k s h s h) true := by
  unfold laws_eqVessels.f
  refine Ev.bind (eqIntS_ev s hs) ?_
  try dsimp only
  refine Ev.ifT rfl (Ev.bind (eqIntS_ev h hh) ?_)
  exact Ev.ifT rfl (Ev.now _)
theorem clone_val (l : List Int) (hl : l.length ≤ 1048576) : slices_Clone_int_int.f l = some l := by
  unfold slices_Clone_int_int.f
  rw [if_pos (by omega)]
theorem own_val (s h : List Int) (hs : s.length ≤ 1048576) (hh : h.length ≤ 1048576) : impl_Vessels_own.f s h = some (s, h) := by
  unfold impl_Vessels_own.f
  rw [clone_val s hs, Option.bind_some, clone_val h hh, Option.bind_some]
/-- whether there is a move of n vessels -/
def isMv (n f t : Int) : Bool := decide (-1 ≤ f ∧ f ≤ n - 1) && (decide (-1 ≤ t ∧ t ≤ n - 1) && f != t)
theorem isMv_le {n f t : Int} (h : isMv n f t = true) : -1 ≤ f ∧ f ≤ n - 1 ∧ -1 ≤ t ∧ t ≤ n - 1 ∧ f ≠ t := by
  unfold isMv at h
  simp only [Bool.and_eq_true, decide_eq_true_eq, bne_iff_ne, ne_eq] at h
  exact ⟨h.1.1, h.1.2, h.2.1.1, h.2.1.2, h.2.2⟩
theorem veMove_val (n f t : Int) (h0 : 0 ≤ n) (h1 : n ≤ 1048576) : spec_veMove.f n f t = some (isMv n f t) := by
  unfold spec_veMove.f isMv
  rw [w64 (x := n - 1) (by omega) (by omega), in_val, in_val]
  simp only [Option.bind_some]
  cases decide (-1 ≤ f ∧ f ≤ n - 1) <;> cases decide (-1 ≤ t ∧ t ≤ n - 1) <;> simp
theorem isMove_val (n f t : Int) (h0 : 0 ≤ n) (h1 : n ≤ 1048576) : impl_Move_isMove.f f t n = some (isMv n f t) := by
  unfold impl_Move_isMove.f isMv
  rw [w64 (x := n - 1) (by omega) (by omega), within_val, within_val]
  simp only [Option.bind_some]
  cases decide (-1 ≤ f ∧ f ≤ n - 1) <;> cases decide (-1 ≤ t ∧ t ≤ n - 1) <;> simp
/-- what a move pours -/
def amt (s h : List Int) (f t : Int) : Int := if f < 0 then rd s t - rd h t else if t < 0 then rd h f else mn (rd h f) (rd s t - rd h t)
/-- what is held behind a move -/
def moved (s h : List Int) (f t : Int) : List Int :=
  let h1 := if 0 ≤ f then h.set f.toNat (wrap64 (rd h f - amt s h f t)) else h
  if 0 ≤ t then h1.set t.toNat (wrap64 (rd h1 t + amt s h f t)) else h1
theorem moved_len (s h : List Int) (f t : Int) : (moved s h f t).length = h.length := by
  unfold moved
  try dsimp only
  split <;> split <;> simp
theorem rd_mem {l : List Int} {i : Int} (h0 : 0 ≤ i) (h1 : i < l.length) : rd l i ∈ l := by
  unfold rd
  rw [List.getD_eq_getElem?_getD, List.getElem?_eq_getElem (by omega)]
  exact List.getElem_mem _
theorem good_room {s h : List Int} (hg : goodV s h = true) {t : Int} (h0 : 0 ≤ t) (h1 : t < s.length) : 0 ≤ rd h t ∧ rd h t ≤ rd s t ∧ rd s t ≤ 60 := by
  obtain ⟨_, _, he, hs, hh⟩ := goodV_le hg
  have h2 := hh t h0 (by omega)
  have h3 := hs _ (rd_mem h0 h1)
  exact ⟨h2.1, h2.2, h3.2⟩
theorem room_val (s h : List Int) (hg : goodV s h = true) (t : Int) (h0 : 0 ≤ t) (h1 : t < s.length) : impl_Vessels_room.f s h t = some (rd s t - rd h t) := by
  have hr := good_room hg h0 h1
  have he := (goodV_le hg).2.2.1
  unfold impl_Vessels_room.f
  rw [if_pos h0, if_pos h1, if_pos (by omega), w64 (by omega) (by omega)]
theorem amount_val (s h : List Int) (hg : goodV s h = true) (f t : Int) (hm : isMv s.length f t = true) : impl_Vessels_amount.f s h f t = some (amt s h f t) := by
  obtain ⟨m1, m2, m3, m4, m5⟩ := isMv_le hm
  have he := (goodV_le hg).2.2.1
  unfold impl_Vessels_amount.f amt
  by_cases c1 : f < 0
  · rw [if_pos c1, if_pos c1, room_val s h hg t (by omega) (by omega), Option.bind_some]
  · rw [if_neg c1, if_neg c1]
    by_cases c2 : t < 0
    · rw [if_pos c2, if_pos c2, if_pos (by omega), if_pos (by omega)]
    · rw [if_neg c2, if_neg c2, if_pos (by omega), if_pos (by omega), room_val s h hg t (by omega) (by omega), Option.bind_some]
theorem veAmount_val (s h : List Int) (hg : goodV s h = true) (f t : Int) (hm : isMv s.length f t = true) : spec_veAmount.f s h f t = some (amt s h f t) := by
  obtain ⟨m1, m2, m3, m4, m5⟩ := isMv_le hm
  have he := (goodV_le hg).2.2.1
  unfold spec_veAmount.f amt
  by_cases c1 : f < 0
  · have hr := good_room hg (t := t) (by omega) (by omega)
    rw [if_neg (by omega), if_pos c1, if_pos (by omega), if_pos (by omega), if_pos (by omega), if_pos (by omega), w64 (by omega) (by omega)]
    unfold spec_l1Least.f
    rw [if_neg (by omega), Option.bind_some]
  · rw [if_pos (by omega), if_neg c1, if_pos (by omega), if_pos (by omega)]
    by_cases c2 : t < 0
    · rw [if_neg (by omega), if_pos c2]
    · have hr := good_room hg (t := t) (by omega) (by omega)
      rw [if_pos (by omega), if_neg c2, if_pos (by omega), if_pos (by omega), if_pos (by omega), w64 (by omega) (by omega)]
      unfold spec_l1Least.f mn
      by_cases c3 : rd h f < rd s t - rd h t
      · rw [if_pos c3, if_neg (by omega), Option.bind_some]
      · rw [if_neg c3, Option.bind_some]
        by_cases c4 : rd s t - rd h t < rd h f
        · rw [if_pos c4]
        · rw [if_neg c4]
          congr 1
          omega
theorem l1Own_val (l : List Int) (hl : l.length ≤ 1048576) : spec_l1Own.f l = some l := by
  unfold spec_l1Own.f
  simp only [Option.bind_some, List.length_nil, List.nil_append]
  rw [if_pos (by omega)]
theorem veMake_val (s h : List Int) (hg : goodV s h = true) (f t : Int) (hm : isMv s.length f t = true) : spec_veMake.f s h f t = some (s, moved s h f t) := by
  obtain ⟨m1, m2, m3, m4, m5⟩ := isMv_le hm
  obtain ⟨_, h5, he, _, _⟩ := goodV_le hg
  unfold spec_veMake.f moved
  rw [veAmount_val s h hg f t hm, l1Own_val s (by omega), l1Own_val h (by omega)]
  simp only [Option.bind_some]
  by_cases c1 : 0 ≤ f
  · rw [if_pos (show f ≥ 0 from c1), if_pos c1, if_pos (by omega), if_pos c1]
    by_cases c2 : 0 ≤ t
    · rw [if_pos (show t ≥ 0 from c2), if_pos c2, if_pos (by omega), if_pos c2]
    · rw [if_neg (show ¬ t ≥ 0 from c2), if_neg c2]
  · rw [if_neg (show ¬ f ≥ 0 from c1), if_neg c1]
    by_cases c2 : 0 ≤ t
    · rw [if_pos (show t ≥ 0 from c2), if_pos c2, if_pos (by omega), if_pos c2]
    · rw [if_neg (show ¬ t ≥ 0 from c2), if_neg c2]
theorem behind_val (s h : List Int) (hg : goodV s h = true) (f t : Int) (hm : isMv s.length f t = true) : impl_Vessels_behind.f s h f t = some (s, moved s h f t) := by
  obtain ⟨m1, m2, m3, m4, m5⟩ := isMv_le hm
  obtain ⟨_, h5, he, _, _⟩ := goodV_le hg
  unfold impl_Vessels_behind.f moved
  rw [own_val s h (by omega) (by omega), Option.bind_some, amount_val s h hg f t hm]
  simp only [Option.bind_some]
  by_cases c1 : 0 ≤ f
  · rw [if_pos (show f ≥ 0 from c1), if_pos c1, if_pos (by omega), if_pos c1]
    by_cases c2 : 0 ≤ t
    · rw [if_pos (show t ≥ 0 from c2), if_pos c2, if_pos (by omega), if_pos c2]
    · rw [if_neg (show ¬ t ≥ 0 from c2), if_neg c2]
  · rw [if_neg (show ¬ f ≥ 0 from c1), if_neg c1]
    by_cases c2 : 0 ≤ t
    · rw [if_pos (show t ≥ 0 from c2), if_pos c2, if_pos (by omega), if_pos c2]
    · rw [if_neg (show ¬ t ≥ 0 from c2), if_neg c2]
theorem szMoveS_val (l : List S39) (hl : l.length ≤ maxLen) (a : Int) (ha0 : 0 ≤ a) (ha1 : a ≤ 1048576) : laws_szMoveS.f l a = some (if (l.length : Int) ≤ a then a - (l.length : Int) else (-1 : Int)) := by
  simp only [maxLen] at hl
  unfold laws_szMoveS.f
  rw [w64 (by omega) (by omega)]
  by_cases h : a - (l.length : Int) < 0
  · rw [if_pos h, if_neg (by omega)]
  · rw [if_neg h, if_pos (by omega)]
def toMv (l : List S39) : List S41 := l.map fun x => ⟨x.f0, x.f1⟩
theorem toMv_length (l : List S39) : (toMv l).length = l.length := by simp [toMv]
theorem toMoveS_ev (l : List S39) (hl : l.length ≤ 1048576) : Ev (fun k => laws_toMoveS.f k l) (toMv l) := by
  have key : ∀ (m : Nat) (i : Int) (y : List S41), 0 ≤ i → (l.length : Int) - i = m → y.length = l.length → (∀ j : Nat, j < i.toNat → y[j]? = (toMv l)[j]?) → Ev (fun k => laws_toMoveS.l0 k l y i) (toMv l) := by
    intro m
    induction m with
    | zero =>
      intro i y h0 hm hyl hj
      refine Ev.step (f := fun _ => some y) (fun k => by simp only [laws_toMoveS.l0]; rw [if_neg (by omega)]) ?_
      have : y = toMv l := by
        apply List.ext_getElem?
        intro j
        by_cases h : j < l.length
        · exact hj j (by omega)
        · rw [List.getElem?_eq_none (by omega), List.getElem?_eq_none (by rw [toMv_length]; omega)]
      rw [this]
      exact Ev.now _
    | succ m ih =>
      intro i y h0 hm hyl hj
      have hi : i.toNat < l.length := by omega
      refine Ev.step (f := fun k => laws_toMoveS.l0 k l (y.set i.toNat ⟨(rd_T39 l i).f0, (rd_T39 l i).f1⟩) (i + 1)) (fun k => ?_) ?_
      · simp only [laws_toMoveS.l0, laws_toMove.f, Option.bind_some]
        rw [if_pos (by omega), if_pos h0, if_pos (by omega), w64 (x := i + 1) (by omega) (by omega)]
      · refine ih (i + 1) _ (by omega) (by omega) (by rw [List.length_set]; exact hyl) (fun j hlt => ?_)
        by_cases e : j = i.toNat
        · subst e
          rw [List.getElem?_set_self (by omega)]
          simp only [toMv, List.getElem?_map, List.getElem?_eq_getElem hi, Option.map_some]
          unfold rd_T39
          rw [getD_eq z39 hi]
        · rw [List.getElem?_set_ne (fun e' => e e'.symm)]
          exact hj j (by omega)
  unfold laws_toMoveS.f
  refine Ev.ifT (by omega) (Ev.ifT (by omega) ?_)
  exact key l.length 0 _ (by omega) (by omega) (by simp) (fun j hj => absurd hj (by simp))
theorem eqMoveS_ev (l : List S41) (hl : l.length ≤ 1048576) : Ev (fun k => laws_eqMoveS.f k l l) true := by
  refine Ev.congr (fun k => ?_) (same_ev (l0 := laws_eqMoveS.l0) (fun k x i => by simp only [laws_eqMoveS.l0, laws_eqMove.f, if_true, Option.bind_some]) l (by omega))
  show laws_eqMoveS.f k l l = _
  unfold laws_eqMoveS.f
  rw [if_pos rfl]
theorem rd_set {l : List Int} {i j : Int} {x : Int} (h0 : 0 ≤ i) (h1 : i < l.length) (g0 : 0 ≤ j) : rd (l.set i.toNat x) j = if i = j then x else rd l j := by
  unfold rd
  rw [List.getD_eq_getElem?_getD, List.getD_eq_getElem?_getD]
  by_cases e : i = j
  · subst e
    rw [if_pos rfl, List.getElem?_set_self (by omega)]
    rfl
  · rw [if_neg e, List.getElem?_set_ne (by omega)]
theorem moved_good {s h : List Int} (hg : goodV s h = true) {f t : Int} (hm : isMv s.length f t = true) : goodV s (moved s h f t) = true := by
  obtain ⟨m1, m2, m3, m4, m5⟩ := isMv_le hm
  have he := (goodV_le hg).2.2.1
  have hr := fun {j : Int} (h0 : 0 ≤ j) (h1 : j < s.length) => good_room hg h0 h1
  have hlen := moved_len s h f t
  unfold goodV at hg ⊢
  simp only [Bool.and_eq_true, decide_eq_true_eq, allFrom_iff] at hg ⊢
  refine ⟨hg.1, by omega, hg.2.2.1, fun j h0 h1 => ?_⟩
  have hj : j < s.length := by omega
  have rj := hr h0 hj
  unfold moved
  try dsimp only
  have a0 : ∀ _ : 0 ≤ f, amt s h f t ≤ rd h f ∧ 0 ≤ amt s h f t := fun hf => by
    have rf := hr hf (by omega)
    unfold amt
    rw [if_neg (by omega)]
    by_cases ht : t < 0
    · rw [if_pos ht]; omega
    · have rt := hr (j := t) (by omega) (by omega)
      rw [if_neg ht]; unfold mn; split <;> omega
  have a1 : ∀ _ : 0 ≤ t, amt s h f t ≤ rd s t - rd h t ∧ 0 ≤ amt s h f t := fun ht => by
    have rt := hr ht (by omega)
    unfold amt
    by_cases hf : f < 0
    · rw [if_pos hf]; omega
    · have rf := hr (j := f) (by omega) (by omega)
      rw [if_neg hf, if_neg (by omega)]; unfold mn; split <;> omega
  by_cases hf : 0 ≤ f
  · have rf := hr hf (by omega)
    have b0 := a0 hf
    rw [if_pos hf, w64 (x := rd h f - amt s h f t) (by omega) (by omega)]
    by_cases ht : 0 ≤ t
    · have rt := hr ht (by omega)
      have b1 := a1 ht
      have e1 : rd (h.set f.toNat (rd h f - amt s h f t)) t = rd h t := by rw [rd_set hf (by omega) ht, if_neg m5]
      rw [if_pos ht, e1, w64 (x := rd h t + amt s h f t) (by omega) (by omega), rd_set ht (by rw [List.length_set]; omega) h0]
      by_cases c : t = j
      · subst c; rw [if_pos rfl]; omega
      · rw [if_neg c, rd_set hf (by omega) h0]
        by_cases c2 : f = j
        · subst c2; rw [if_pos rfl]; omega
        · rw [if_neg c2]; omega
    · rw [if_neg ht, rd_set hf (by omega) h0]
      by_cases c2 : f = j
      · subst c2; rw [if_pos rfl]; omega
      · rw [if_neg c2]; omega
  · rw [if_neg hf]
    by_cases ht : 0 ≤ t
    · have rt := hr ht (by omega)
      have b1 := a1 ht
      rw [if_pos ht, w64 (x := rd h t + amt s h f t) (by omega) (by omega), rd_set ht (by omega) h0]
      by_cases c : t = j
      · subst c; rw [if_pos rfl]; omega
      · rw [if_neg c]; omega
    · rw [if_neg ht]; omega
/-- whether all are moves -/
def okM (n : Nat) (l : List S41) : Bool := l.all fun x => isMv n x.f0 x.f1
theorem moveOk_eq (n : Nat) (hn : n ≤ 1048576) (x : S41) : moveOk n x = isMv n x.f0 x.f1 := by
  unfold moveOk isMv
  rw [w64 (x := (n : Int) - 1) (by omega) (by omega)]
theorem okM_eq (n : Nat) (hn : n ≤ 1048576) (l : List S41) : (!(l.any fun x => !moveOk n x)) = okM n l := by
  unfold okM
  rw [List.any_eq_not_all_not, Bool.not_not]
  congr 1
  funext x
  rw [Bool.not_not, moveOk_eq n hn]
theorem areMoves_ev (s h : List Int) (l : List S41) (hs : s.length ≤ 1048576) (hh : h.length ≤ 1048576) : Ev (fun k => impl_areMoves.f k s h l) (goodV s h && (decide ((l.length : Int) ≤ 100) && okM s.length l)) := by
  unfold impl_areMoves.f
  refine Ev.bind (areVessels_ev s h hs hh) ?_
  try dsimp only
  cases goodV s h with
  | true => rw [okM_eq _ hs]; exact Ev.ifT rfl (Ev.now _)
  | false => exact Ev.ifF (by decide) (Ev.now _)
theorem veMoves_ev (s h : List Int) (l : List S41) (hs : s.length ≤ 1048576) (hh : h.length ≤ 1048576) (hl : l.length ≤ 1048576) : Ev (fun k => spec_veMoves.f k s h l) (goodV s h && (decide ((l.length : Int) ≤ 100) && okM s.length l)) := by
  unfold spec_veMoves.f
  refine Ev.bind (veGood_ev s h hs hh) ?_
  try dsimp only
  cases goodV s h with
  | true =>
    refine Ev.ifT rfl ?_
    by_cases c : (l.length : Int) ≤ 100
    · rw [decide_eq_false (show ¬ (l.length : Int) > 100 by omega), decide_eq_true c, Bool.true_and, Bool.true_and]
      refine Ev.step (f := fun k => spec_veMoves.l0 k l (l.length : Int) 0 s h) (fun k => by simp only [spec_veMoves.j0, Bool.false_eq_true, if_false]) ?_
      refine all_ev (l0 := fun k x i => spec_veMoves.l0 k x (x.length : Int) i s h) z41 (fun x => isMv s.length x.f0 x.f1) (fun k x i h0 => ?_) l (by omega)
      show spec_veMoves.l0 (k + 1) x (x.length : Int) i s h = _
      simp only [spec_veMoves.l0, veMove_val (s.length : Int) _ _ (by omega) (by omega), Option.bind_some]
      by_cases hi : i < (x.length : Int)
      · rw [if_pos hi, if_pos h0, if_pos hi, if_pos hi]
        rfl
      · rw [if_neg hi, if_neg hi]
    · rw [decide_eq_true (show (l.length : Int) > 100 by omega), decide_eq_false c, Bool.false_and, Bool.and_false]
      exact Ev.step (f := fun _ => some false) (fun k => by simp only [spec_veMoves.j0, if_true]) (Ev.now _)
  | false =>
    exact Ev.ifF (by decide) (Ev.step (f := fun _ => some false) (fun k => by simp only [spec_veMoves.j0, if_true]) (Ev.now _))
/-- what is held behind all moves -/
def fin (s : List Int) : List Int → List S41 → List Int
  | h, [] => h
  | h, m :: ms => fin s (moved s h m.f0 m.f1) ms
theorem fin_len (s : List Int) : ∀ (l : List S41) (h : List Int), (fin s h l).length = h.length
  | [], _ => rfl
  | m :: ms, h => by rw [fin, fin_len s ms, moved_len]
/-- the states behind each move -/
def scan (s : List Int) : List Int → List S41 → List S26
  | _, [] => []
  | h, m :: ms => ⟨s, moved s h m.f0 m.f1⟩ :: scan s (moved s h m.f0 m.f1) ms
theorem scan_len (s : List Int) : ∀ (l : List S41) (h : List Int), (scan s h l).length = l.length
  | [], _ => rfl
  | m :: ms, h => by rw [scan, List.length_cons, scan_len s ms, List.length_cons]
theorem along_val (s : List Int) : ∀ (l : List S41) (h : List Int) (out : List S26), goodV s h = true → okM s.length l = true → spec_veAlong.l0 l s h out = some (out ++ scan s h l)
  | [], h, out, _, _ => by simp [spec_veAlong.l0, scan]
  | m :: ms, h, out, hg, hm => by
    simp only [okM, List.all_cons, Bool.and_eq_true] at hm
    simp only [spec_veAlong.l0, scan]
    rw [veMake_val s h hg m.f0 m.f1 hm.1, Option.bind_some]
    dsimp only
    rw [along_val s ms (moved s h m.f0 m.f1) _ (moved_good hg hm.1) hm.2, List.append_assoc]
    rfl
theorem veAlong_val (s h : List Int) (l : List S41) (hg : goodV s h = true) (hl : (l.length : Int) ≤ 100) (hm : okM s.length l = true) : spec_veAlong.f s h l = some (⟨s, h⟩ :: scan s h l) := by
  have hv := goodV_le hg
  unfold spec_veAlong.f
  rw [if_pos (by omega), along_val s l h _ hg hm]
  rfl
theorem scan_last (s : List Int) : ∀ (l : List S41) (h : List Int), (⟨s, h⟩ :: scan s h l : List S26).getD l.length z26 = ⟨s, fin s h l⟩
  | [], h => rfl
  | m :: ms, h => by
    rw [List.length_cons, List.getD_cons_succ]
    exact scan_last s ms (moved s h m.f0 m.f1)
theorem scan_get (s : List Int) : ∀ (l : List S41) (h : List Int) (i : Nat), i ≤ l.length → (⟨s, h⟩ :: scan s h l : List S26).getD i z26 = ⟨s, fin s h (l.take i)⟩
  | l, h, 0, _ => by rw [List.take_zero]; rfl
  | m :: ms, h, i + 1, hi => by
    rw [List.getD_cons_succ, List.take_succ_cons, fin]
    exact scan_get s ms (moved s h m.f0 m.f1) i (by simpa using hi)
theorem fin_take (s : List Int) : ∀ (l : List S41) (h : List Int) (i : Nat) (hi : i < l.length), fin s h (l.take (i + 1)) = moved s (fin s h (l.take i)) (l[i]).f0 (l[i]).f1
  | m :: ms, h, 0, _ => by simp [fin]
  | m :: ms, h, i + 1, hi => by
    rw [List.take_succ_cons, fin, List.take_succ_cons, fin]
    exact fin_take s ms (moved s h m.f0 m.f1) i (by simpa using hi)
theorem okM_at {n : Nat} {l : List S41} (h : okM n l = true) {i : Nat} (hi : i < l.length) : isMv n (l[i]).f0 (l[i]).f1 = true := by
  unfold okM at h
  exact List.all_eq_true.mp h _ (List.getElem_mem hi)
theorem fin_good {s : List Int} : ∀ (l : List S41) (h : List Int) (i : Nat), goodV s h = true → okM s.length l = true → goodV s (fin s h (l.take i)) = true
  | [], h, i, hg, _ => by rw [List.take_nil]; exact hg
  | m :: ms, h, 0, hg, _ => by rw [List.take_zero]; exact hg
  | m :: ms, h, i + 1, hg, hm => by
    rw [List.take_succ_cons, fin]
    simp only [okM, List.all_cons, Bool.and_eq_true] at hm
    exact fin_good ms _ i (moved_good hg hm.1) hm.2
/-- what comes from the tap, and what goes to the drain -/
def taken (s : List Int) : Int → Int → List Int → List S41 → Int × Int
  | a, b, _, [] => (a, b)
  | a, b, h, m :: ms => if m.f0 < 0 then taken s (wrap64 (a + amt s h m.f0 m.f1)) b (moved s h m.f0 m.f1) ms else if m.f1 < 0 then taken s a (wrap64 (b + amt s h m.f0 m.f1)) (moved s h m.f0 m.f1) ms else taken s a b (moved s h m.f0 m.f1) ms
theorem implLoop_ev (s : List Int) (l : List S41) (hl : (l.length : Int) ≤ 100) (hm : okM s.length l = true) : ∀ (n : Nat) (i : Nat) (a b : Int) (h : List Int), l.length - i = n → i ≤ l.length → goodV s h = true → Ev (fun k => impl_TakenIn.l0 k a b l (l.length : Int) (i : Int) s h) ((taken s a b h (l.drop i)).1, (taken s a b h (l.drop i)).2, true) := by
  intro n
  induction n with
  | zero =>
    intro i a b h hn hi hg
    refine Ev.step (f := fun _ => some (a, b, true)) (fun k => by simp only [impl_TakenIn.l0]; rw [if_neg (by omega)]) ?_
    rw [List.drop_eq_nil_of_le (by omega)]
    exact Ev.now _
  | succ n ih =>
    intro i a b h hn hi hg
    have hlt : i < l.length := by omega
    have hx := okM_at hm hlt
    have e1 : rd_T41 l (i : Int) = l[i] := by unfold rd_T41; rw [Int.toNat_natCast]; exact getD_eq _ hlt
    rw [List.drop_eq_getElem_cons hlt, taken]
    have hi2 := fun a b => ih (i + 1) a b _ (by omega) (by omega) (moved_good hg hx)
    by_cases c1 : (l[i]).f0 < 0
    · rw [if_pos c1]
      refine Ev.step (fun k => ?_) (hi2 _ _)
      simp only [impl_TakenIn.l0]
      rw [if_pos (by omega), if_pos (by omega), if_pos (by omega), e1, if_pos c1, amount_val s h hg _ _ hx, behind_val s h hg _ _ hx]
      simp only [Option.bind_some]
      rw [w64 (x := (i : Int) + 1) (by omega) (by omega)]
      rfl
    · rw [if_neg c1]
      by_cases c2 : (l[i]).f1 < 0
      · rw [if_pos c2]
        refine Ev.step (fun k => ?_) (hi2 _ _)
        simp only [impl_TakenIn.l0]
        rw [if_pos (by omega), if_pos (by omega), if_pos (by omega), e1, if_neg c1, if_pos c2, amount_val s h hg _ _ hx, behind_val s h hg _ _ hx]
        simp only [Option.bind_some]
        rw [w64 (x := (i : Int) + 1) (by omega) (by omega)]
        rfl
      · rw [if_neg c2]
        refine Ev.step (fun k => ?_) (hi2 _ _)
        simp only [impl_TakenIn.l0]
        rw [if_pos (by omega), if_pos (by omega), if_pos (by omega), e1, if_neg c1, if_neg c2, behind_val s h hg _ _ hx]
        simp only [Option.bind_some]
        rw [w64 (x := (i : Int) + 1) (by omega) (by omega)]
        rfl
theorem specLoop_ev (s h : List Int) (l : List S41) (hl : (l.length : Int) ≤ 100) (hg : goodV s h = true) (hm : okM s.length l = true) (xs : List S26) (hx : xs = (⟨s, h⟩ :: scan s h l : List S26).take l.length) : ∀ (n : Nat) (i : Nat) (a b : Int), l.length - i = n → i ≤ l.length → Ev (fun k => spec_TakenIn.l0 k l a b xs (xs.length : Int) (i : Int)) ((taken s a b (fin s h (l.take i)) (l.drop i)).1, (taken s a b (fin s h (l.take i)) (l.drop i)).2, true) := by
  have hxl : xs.length = l.length := by rw [hx, List.length_take, List.length_cons, scan_len]; omega
  intro n
  induction n with
  | zero =>
    intro i a b hn hi
    refine Ev.step (f := fun _ => some (a, b, true)) (fun k => by simp only [spec_TakenIn.l0]; rw [if_neg (by omega)]) ?_
    rw [List.drop_eq_nil_of_le (by omega)]
    exact Ev.now _
  | succ n ih =>
    intro i a b hn hi
    have hlt : i < l.length := by omega
    have hv := okM_at hm hlt
    have hgi := fin_good l h i hg hm
    have e1 : rd_T41 l (i : Int) = l[i] := by unfold rd_T41; rw [Int.toNat_natCast]; exact getD_eq _ hlt
    have e2 : rd_T26 xs (i : Int) = ⟨s, fin s h (l.take i)⟩ := by
      unfold rd_T26
      rw [Int.toNat_natCast, ← scan_get s l h i (by omega), hx, List.getD_eq_getElem?_getD, List.getD_eq_getElem?_getD, List.getElem?_take_of_lt hlt]
    rw [List.drop_eq_getElem_cons hlt, taken]
    have hi2 := fun a b => ih (i + 1) a b (by omega) (by omega)
    rw [fin_take s l h i hlt] at hi2
    have am := veAmount_val s _ hgi _ _ hv
    by_cases c1 : (l[i]).f0 < 0
    · rw [if_pos c1]
      refine Ev.step (fun k => ?_) (hi2 _ _)
      simp only [spec_TakenIn.l0]
      rw [if_pos (by omega), if_pos (by omega), if_pos (by omega), if_pos (by omega), e1, e2]
      dsimp only
      rw [am, Option.bind_some, if_pos c1, w64 (x := (i : Int) + 1) (by omega) (by omega)]
      rfl
    · rw [if_neg c1]
      by_cases c2 : (l[i]).f1 < 0
      · rw [if_pos c2]
        refine Ev.step (fun k => ?_) (hi2 _ _)
        simp only [spec_TakenIn.l0]
        rw [if_pos (by omega), if_pos (by omega), if_pos (by omega), if_pos (by omega), e1, e2]
        dsimp only
        rw [am, Option.bind_some, if_neg c1, if_pos c2, w64 (x := (i : Int) + 1) (by omega) (by omega)]
        rfl
      · rw [if_neg c2]
        refine Ev.step (fun k => ?_) (hi2 _ _)
        simp only [spec_TakenIn.l0]
        rw [if_pos (by omega), if_pos (by omega), if_pos (by omega), if_pos (by omega), e1, e2]
        dsimp only
        rw [am, Option.bind_some, if_neg c1, if_neg c2, w64 (x := (i : Int) + 1) (by omega) (by omega)]
        rfl
/-- the answer -/
def answer (s h : List Int) (l : List S41) : Int × Int × Bool := if (goodV s h && (decide ((l.length : Int) ≤ 100) && okM s.length l)) = true then ((taken s 0 0 h l).1, (taken s 0 0 h l).2, true) else (0, 0, false)
theorem spec_ev (s h : List Int) (l : List S41) (hs : s.length ≤ 1048576) (hh : h.length ≤ 1048576) (hl : l.length ≤ 1048576) : Ev (fun k => spec_TakenIn.f k s h l) (answer s h l) := by
  unfold spec_TakenIn.f answer
  refine Ev.bind (veMoves_ev s h l hs hh hl) ?_
  try dsimp only
  cases hc : (goodV s h && (decide ((l.length : Int) ≤ 100) && okM s.length l)) with
  | true =>
    simp only [Bool.and_eq_true, decide_eq_true_eq] at hc
    rw [veAlong_val s h l hc.1 hc.2.1 hc.2.2]
    refine Ev.ifT rfl (Ev.now_ (Ev.ifT (by omega) (Ev.ifT (by rw [List.length_cons, scan_len]; omega) (Ev.now_ ?_))))
    rw [Int.toNat_natCast]
    have := specLoop_ev s h l hc.2.1 hc.1 hc.2.2 _ rfl l.length 0 0 0 (by omega) (by omega)
    rw [List.drop_zero, List.take_zero] at this
    exact this
  | false => exact Ev.ifF (by decide) (Ev.now _)
theorem impl_ev (s h : List Int) (l : List S41) (hs : s.length ≤ 1048576) (hh : h.length ≤ 1048576) : Ev (fun k => impl_TakenIn.f k s h l) (answer s h l) := by
  unfold impl_TakenIn.f answer
  refine Ev.bind (areMoves_ev s h l hs hh) ?_
  try dsimp only
  cases hc : (goodV s h && (decide ((l.length : Int) ≤ 100) && okM s.length l)) with
  | true =>
    simp only [Bool.and_eq_true, decide_eq_true_eq] at hc
    refine Ev.ifT rfl ?_
    have := implLoop_ev s l hc.2.1 hc.2.2 l.length 0 0 0 h (by omega) (by omega) hc.1
    rw [List.drop_zero] at this
    exact this
  | false => exact Ev.ifF (by decide) (Ev.now _)
theorem FnExactTakenIn : ∀ (l0_0 : (List Int)) (l0_1 : (List Int)) (l1 : (List S39)), (l0_0.length ≤ maxLen ∧ ∀ y4 ∈ l0_0, (Lit.int .i64 y4).wf = true) → (l0_1.length ≤ maxLen ∧ ∀ y4 ∈ l0_1, (Lit.int .i64 y4).wf = true) → (l1.length ≤ maxLen ∧ ∀ y2 ∈ l1, ((Lit.int .i64 y2.f0).wf = true) ∧ ((Lit.int .i64 y2.f1).wf = true)) → ∃ k, laws_FnExactTakenIn.f k l0_0 l0_1 l1 = some true := by
  intro s h l hs hh hl0
  have hl1 : l.length ≤ maxLen := by first | exact hl0.1 | exact hl0
  refine Ev.rounds (?_ : Ev (fun k => laws_FnExactTakenIn.f k s h l) true)
  unfold laws_FnExactTakenIn.f
  rw [szVessels_val s h hs.1 hh.1 1048576 (by omega) (by omega)]
  by_cases hl : (s.length : Int) + (h.length : Int) ≤ 1048576
  · rw [if_pos hl]
    simp only [Option.bind_some]
    refine Ev.ifF (by omega) ?_
    rw [szMoveS_val l hl1 _ (by omega) (by omega)]
    by_cases hl2 : (l.length : Int) ≤ 1048576 - (s.length : Int) - (h.length : Int)
    · rw [if_pos hl2]
      simp only [Option.bind_some]
      refine Ev.ifF (by omega) ?_
      have hq : (toMv l).length ≤ 1048576 := by rw [toMv_length]; omega
      have hS := spec_ev s h (toMv l) (by omega) (by omega) hq
      have hI := impl_ev s h (toMv l) (by omega) (by omega)
      have hT := toMoveS_ev l (by omega)
      have hE := eqMoveS_ev (toMv l) hq
      generalize toMv l = m at hS hI hT hE hq
      generalize answer s h m = r at hS hI
      obtain ⟨a, b, t0⟩ := r
      refine Ev.bind (toVessels_ev s h (by omega) (by omega)) ?_
      try dsimp only
      refine Ev.bind hT ?_
      try dsimp only
      refine Ev.bind hS ?_
      try dsimp only
      refine Ev.bind (toVessels_ev s h (by omega) (by omega)) ?_
      try dsimp only
      refine Ev.bind hT ?_
      try dsimp only
      refine Ev.bind hI ?_
      try dsimp only
      refine Ev.ifT rfl (Ev.ifT rfl (Ev.step (fun k => rfl) ?_))
      refine Ev.ifF (by simp) ?_
      refine Ev.bind (toVessels_ev s h (by omega) (by omega)) ?_
      try dsimp only
      refine Ev.bind (eqVessels_ev s h (by omega) (by omega)) ?_
      try dsimp only
      refine Ev.ifT rfl (Ev.bind hT ?_)
      try dsimp only
      refine Ev.bind hE ?_
      try dsimp only
      exact Ev.ifT rfl (Ev.now _)
    · rw [if_neg hl2]
      simp only [Option.bind_some]
      exact Ev.ifT (by decide) (Ev.now _)
  · rw [if_neg hl]
    simp only [Option.bind_some]
    exact Ev.ifT (by decide) (Ev.now _)

end Go.Proofs.Ytobkbpoamicjgaa.Pure

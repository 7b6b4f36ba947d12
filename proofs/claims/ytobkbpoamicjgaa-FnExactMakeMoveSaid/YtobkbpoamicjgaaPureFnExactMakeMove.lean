/- The pure statement of the law FnExactMakeMove: what its printed functions compute is true for every input. No conditions. -/
import Derived.Test.YtobkbpoamicjgaaPFnExactMakeMovex8
import Derived.Test.YtobkbpoamicjgaaPl
namespace Go.Proofs.Ytobkbpoamicjgaa.Pure
open Go.RowKit Go.Proofs.Ytobkbpoamicjgaa.PFnExactMakeMove Go.Proofs.YtobkbpoamicjgaaW.PrintWords Go.Proofs.YtobkbpoamicjgaaW.PrintLast Go.Proofs.Ytobkbpoamicjgaa.Pl
set_option linter.unusedVariables false
set_option linter.unusedSimpArgs false

theorem within_val (x a b : Int) : impl_within.f x a b = some (decide (a ≤ x ∧ x ≤ b)) := by
  unfold impl_within.f
  by_cases h : a ≤ x <;> simp [h]
theorem in_val (x a b : Int) : spec_l1In.f x a b = some (decide (a ≤ x ∧ x ≤ b)) := within_val x a b
/-- all elements lie in some bounds -/
def allIn (l : List Int) (a b : Int) : Bool := l.all fun x => decide (a ≤ x ∧ x ≤ b)
theorem areWithin_val (l : List Int) (a b : Int) : impl_areWithin.f l a b = some (allIn l a b) := by
  unfold impl_areWithin.f allIn
  congr 1
  rw [List.any_eq_not_all_not, Bool.not_not]
  congr 1
  funext x
  simp
theorem l1All_ev (l : List Int) (a b : Int) (hl : l.length ≤ 1048576) : Ev (fun k => spec_l1All.f k l a b) (allIn l a b) := by
  refine all_ev (l0 := fun k x i => spec_l1All.l0 k a b x (x.length : Int) i) 0 (fun x => decide (a ≤ x ∧ x ≤ b)) (fun k x i h0 => ?_) l (by omega)
  show spec_l1All.l0 (k + 1) a b x (x.length : Int) i = _
  simp only [spec_l1All.l0, in_val, Option.bind_some]
  by_cases hi : i < (x.length : Int)
  · rw [if_pos hi, if_pos h0, if_pos hi, if_pos hi]
    rfl
  · rw [if_neg hi, if_neg hi]
/-- vessels -/
def goodV (s h : List Int) : Bool := decide (1 ≤ (s.length : Int) ∧ (s.length : Int) ≤ 5) && (decide ((h.length : Int) = s.length) && (allIn s 1 60 && allFrom (fun i => decide (0 ≤ rd h i ∧ rd h i ≤ rd s i)) h.length 0))
theorem goodV_le {s h : List Int} (hg : goodV s h = true) : 1 ≤ s.length ∧ s.length ≤ 5 ∧ h.length = s.length ∧ (∀ x ∈ s, 1 ≤ x ∧ x ≤ 60) ∧ ∀ j : Int, 0 ≤ j → j < h.length → 0 ≤ rd h j ∧ rd h j ≤ rd s j := by
  unfold goodV allIn at hg
  simp only [Bool.and_eq_true, decide_eq_true_eq, List.all_eq_true, allFrom_iff] at hg
  exact ⟨by omega, by omega, by omega, hg.2.2.1, fun j h0 h1 => hg.2.2.2 j h0 (by omega)⟩
theorem areVessels_ev (s h : List Int) (hs : s.length ≤ 1048576) (hh : h.length ≤ 1048576) : Ev (fun k => impl_AreVessels.f k s h) (goodV s h) := by
  unfold impl_AreVessels.f goodV
  simp only [within_val, areWithin_val, Option.bind_some]
  by_cases h1 : 1 ≤ (s.length : Int) ∧ (s.length : Int) ≤ 5
  · rw [decide_eq_true h1]
    refine Ev.ifT rfl ?_
    by_cases h2 : (h.length : Int) = s.length
    · rw [decide_eq_true h2]
      refine Ev.ifT h2 ?_
      cases allIn s 1 60 with
      | true =>
        refine Ev.step (f := fun k => impl_AreVessels.l0 k h (h.length : Int) 0 s h) (fun k => by simp only [impl_AreVessels.j0, Bool.not_true, Bool.false_eq_true, if_false]) ?_
        refine allFrom_ev (l0 := fun k i => impl_AreVessels.l0 k h (h.length : Int) i s h) (by omega) (fun k i h0 => ?_)
        show impl_AreVessels.l0 (k + 1) h (h.length : Int) i s h = _
        simp only [impl_AreVessels.l0, within_val, Option.bind_some]
        by_cases hi : i < (h.length : Int)
        · rw [if_pos hi, if_pos h0, if_pos hi, if_pos (by omega), if_pos hi]
        · rw [if_neg hi, if_neg hi]
      | false => exact Ev.step (f := fun _ => some false) (fun k => by simp only [impl_AreVessels.j0, Bool.not_false, if_true]) (Ev.now _)
    · rw [decide_eq_false h2]
      exact Ev.ifF h2 (Ev.step (f := fun _ => some false) (fun k => by simp only [impl_AreVessels.j0, if_true]) (Ev.now _))
  · rw [decide_eq_false h1]
    exact Ev.ifF (by decide) (Ev.step (f := fun _ => some false) (fun k => by simp only [impl_AreVessels.j0, if_true]) (Ev.now _))
theorem veGood_ev (s h : List Int) (hs : s.length ≤ 1048576) (hh : h.length ≤ 1048576) : Ev (fun k => spec_veGood.f k s h) (goodV s h) := by
  unfold spec_veGood.f goodV
  simp only [in_val, Option.bind_some]
  by_cases h1 : 1 ≤ (s.length : Int) ∧ (s.length : Int) ≤ 5
  · rw [decide_eq_true h1]
    refine Ev.ifT rfl ?_
    by_cases h2 : (h.length : Int) = s.length
    · rw [decide_eq_true h2]
      refine Ev.ifT h2 (Ev.bind (l1All_ev s 1 60 hs) ?_)
      try dsimp only
      cases allIn s 1 60 with
      | true =>
        refine Ev.step (f := fun k => spec_veGood.l0 k h (h.length : Int) 0 s h) (fun k => by simp only [spec_veGood.j0, Bool.not_true, Bool.false_eq_true, if_false]) ?_
        refine allFrom_ev (l0 := fun k i => spec_veGood.l0 k h (h.length : Int) i s h) (by omega) (fun k i h0 => ?_)
        show spec_veGood.l0 (k + 1) h (h.length : Int) i s h = _
        simp only [spec_veGood.l0, in_val, Option.bind_some]
        by_cases hi : i < (h.length : Int)
        · rw [if_pos hi, if_pos h0, if_pos hi, if_pos (by omega), if_pos hi]
        · rw [if_neg hi, if_neg hi]
      | false => exact Ev.step (f := fun _ => some false) (fun k => by simp only [spec_veGood.j0, Bool.not_false, if_true]) (Ev.now _)
    · rw [decide_eq_false h2]
      exact Ev.ifF h2 (Ev.step (f := fun _ => some false) (fun k => by simp only [spec_veGood.j0, if_true]) (Ev.now _))
  · rw [decide_eq_false h1]
    exact Ev.ifF (by decide) (Ev.step (f := fun _ => some false) (fun k => by simp only [spec_veGood.j0, if_true]) (Ev.now _))
theorem toIntS_ev (l : List Int) (hl : l.length ≤ 1048576) : Ev (fun k => laws_toIntS.f k l) l := by
  refine Ev.congr (fun k => ?_) (copy_ev 0 (l0 := laws_toIntS.l0) (fun _ _ _ _ => rfl) l 0 (by omega))
  show laws_toIntS.f k l = _
  unfold laws_toIntS.f
  rw [if_pos (by omega), if_pos (by omega)]
theorem eqIntS_ev (l : List Int) (hl : l.length ≤ 1048576) : Ev (fun k => laws_eqIntS.f k l l) true := by
  refine Ev.congr (fun k => ?_) (same_ev (l0 := laws_eqIntS.l0) (fun k x i => by simp only [laws_eqIntS.l0, if_true]) l (by omega))
  show laws_eqIntS.f k l l = _
  unfold laws_eqIntS.f
  rw [if_pos rfl]
theorem szIntS_val (l : List Int) (a : Int) (hl : l.length ≤ maxLen) (ha0 : 0 ≤ a) (ha1 : a ≤ 1048576) : laws_szIntS.f l a = some (if (l.length : Int) ≤ a then a - (l.length : Int) else (-1 : Int)) := by
  simp only [maxLen] at hl
  unfold laws_szIntS.f
  rw [w64 (by omega) (by omega)]
  by_cases h : a - (l.length : Int) < 0
  · rw [if_pos h, if_neg (by omega)]
  · rw [if_neg h, if_pos (by omega)]
theorem szVessels_val (s h : List Int) (hs : s.length ≤ maxLen) (hh : h.length ≤ maxLen) (a : Int) (ha0 : 0 ≤ a) (ha1 : a ≤ 1048576) : laws_szVessels.f s h a = some (if (s.length : Int) + (h.length : Int) ≤ a then a - (s.length : Int) - (h.length : Int) else (-1 : Int)) := by
  unfold laws_szVessels.f
  rw [szIntS_val s a hs ha0 ha1, Option.bind_some]
  by_cases h1 : (s.length : Int) ≤ a
  · rw [if_pos h1, if_neg (by omega), szIntS_val h _ hh (by omega) (by omega), Option.bind_some]
    by_cases h2 : (h.length : Int) ≤ a - (s.length : Int)
    · rw [if_pos h2, if_neg (by omega), if_pos (by omega)]
    · rw [if_neg h2, if_pos (by omega), if_neg (by omega)]
  · rw [if_neg h1, if_pos (by omega), if_neg (by omega)]
theorem toVessels_ev (s h : List Int) (hs : s.length ≤ 1048576) (hh : h.length ≤ 1048576) : Ev (fun k => laws_toVessels.f k s h) (s, h) := by
  unfold laws_toVessels.f
  refine Ev.bind (toIntS_ev s hs) ?_
  try dsimp only
  refine Ev.bind (toIntS_ev h hh) ?_
  exact Ev.now _
theorem eqVessels_ev (s h : List Int) (hs : s.length ≤ 1048576) (hh : h.length ≤ 1048576) : Ev (fun k => laws_eqVessels.f k s h s h) true := by
  unfold laws_eqVessels.f
  refine Ev.bind (eqIntS_ev s hs) ?_
  try dsimp only
  refine Ev.ifT rfl (Ev.bind (eqIntS_ev h hh) ?_)
  exact Ev.ifT rfl (Ev.now _)
theorem markIntS_ev (l : List Int) (q : Int) (hq0 : 0 ≤ q) (hq1 : q ≤ 100000000) (hl : l.length ≤ 1048576) : Ev (fun k => laws_markIntS.f k l q) (q + (l.length : Int), marks q l.length) := by
  refine mark_ev (l0 := laws_markIntS.l0) (fun k x q i h0 => ?_) q hq0 (by omega) l (by omega)
  simp only [laws_markIntS.l0, if_pos h0]
theorem markVessels_ev (s h : List Int) (q : Int) (hq0 : 0 ≤ q) (hq1 : q + (s.length : Int) ≤ 100000000) (hs : s.length ≤ 1048576) (hh : h.length ≤ 1048576) : Ev (fun k => laws_markVessels.f k s h q) (q + (s.length : Int) + (h.length : Int), marks q s.length, marks (q + (s.length : Int)) h.length) := by
  unfold laws_markVessels.f
  refine Ev.bind (markIntS_ev s q hq0 (by omega) hs) ?_
  try dsimp only
  refine Ev.bind (markIntS_ev h (q + (s.length : Int)) (by omega) hq1 hh) ?_
  exact Ev.now _
theorem heldIntS_ev (q : Int) (n : Nat) (hq0 : 0 ≤ q) (hq1 : q ≤ 100000000) (hl : n ≤ 1048576) : Ev (fun k => laws_heldIntS.f k (marks q n) q) (q + (n : Int)) := by
  refine held_ev (l0 := laws_heldIntS.l0) (fun k x q i h0 h1 h2 => ?_) (fun k x q i h1 => ?_) q hq0 (by omega) n (by omega)
  · simp only [laws_heldIntS.l0]
    rw [if_pos h1, if_pos h0, if_pos (show rd x i = q from h2)]
  · simp only [laws_heldIntS.l0]
    rw [if_neg h1]
theorem heldVessels_ev (n m : Nat) (q : Int) (hq0 : 0 ≤ q) (hq1 : q + (n : Int) ≤ 100000000) (hs : n ≤ 1048576) (hh : m ≤ 1048576) : Ev (fun k => laws_heldVessels.f k (marks q n) (marks (q + (n : Int)) m) q) (q + (n : Int) + (m : Int)) := by
  unfold laws_heldVessels.f
  refine Ev.bind (heldIntS_ev q n hq0 (by omega) hs) ?_
  try dsimp only
  refine Ev.ifF (by omega) (Ev.bind (heldIntS_ev (q + (n : Int)) m (by omega) hq1 hh) ?_)
  exact Ev.ifF (by omega) (Ev.now _)
theorem clone_val (l : List Int) (hl : l.length ≤ 1048576) : slices_Clone_int_int.f l = some l := by
  unfold slices_Clone_int_int.f
  rw [if_pos (by omega)]
theorem own_val (s h : List Int) (hs : s.length ≤ 1048576) (hh : h.length ≤ 1048576) : impl_Vessels_own.f s h = some (s, h) := by
  unfold impl_Vessels_own.f
  rw [clone_val s hs, Option.bind_some, clone_val h hh, Option.bind_some]
/-- whether there is a move of n vessels -/
def isMv (n f t : Int) : Bool := decide (-1 ≤ f ∧ f ≤ n - 1) && (decide (-1 ≤ t ∧ t ≤ n - 1) && f != t)
theorem isMv_le {n f t : Int} (h : isMv n f t = true) : -1 ≤ f ∧ f ≤ n - 1 ∧ -1 ≤ t ∧ t ≤ n - 1 ∧ f ≠ t := by
  unfold isMv at h
  simp only [Bool.and_eq_true, decide_eq_true_eq, bne_iff_ne, ne_eq] at h
  exact ⟨h.1.1, h.1.2, h.2.1.1, h.2.1.2, h.2.2⟩
theorem veMove_val (n f t : Int) (h0 : 0 ≤ n) (h1 : n ≤ 1048576) : spec_veMove.f n f t = some (isMv n f t) := by
  unfold spec_veMove.f isMv
  rw [w64 (x := n - 1) (by omega) (by omega), in_val, in_val]
  simp only [Option.bind_some]
  cases decide (-1 ≤ f ∧ f ≤ n - 1) <;> cases decide (-1 ≤ t ∧ t ≤ n - 1) <;> simp
theorem isMove_val (n f t : Int) (h0 : 0 ≤ n) (h1 : n ≤ 1048576) : impl_Move_isMove.f f t n = some (isMv n f t) := by
  unfold impl_Move_isMove.f isMv
  rw [w64 (x := n - 1) (by omega) (by omega), within_val, within_val]
  simp only [Option.bind_some]
  cases decide (-1 ≤ f ∧ f ≤ n - 1) <;> cases decide (-1 ≤ t ∧ t ≤ n - 1) <;> simp
/-- what a move pours -/
def amt (s h : List Int) (f t : Int) : Int := if f < 0 then rd s t - rd h t else if t < 0 then rd h f else mn (rd h f) (rd s t - rd h t)
/-- what is held behind a move -/
def moved (s h : List Int) (f t : Int) : List Int :=
  let h1 := if 0 ≤ f then h.set f.toNat (wrap64 (rd h f - amt s h f t)) else h
  if 0 ≤ t then h1.set t.toNat (wrap64 (rd h1 t + amt s h f t)) else h1
theorem moved_len (s h : List Int) (f t : Int) : (moved s h f t).length = h.length := by
  unfold moved
  try dsimp only
  split <;> split <;> simp
theorem rd_mem {l : List Int} {i : Int} (h0 : 0 ≤ i) (h1 : i < l.length) : rd l i ∈ l := by
  unfold rd
  rw [List.getD_eq_getElem?_getD, List.getElem?_eq_getElem (by omega)]
  exact List.getElem_mem _
theorem good_room {s h : List Int} (hg : goodV s h = true) {t : Int} (h0 : 0 ≤ t) (h1 : t < s.length) : 0 ≤ rd h t ∧ rd h t ≤ rd s t ∧ rd s t ≤ 60 := by
  obtain ⟨_, _, he, hs, hh⟩ := goodV_le hg
  have h2 := hh t h0 (by omega)
  have h3 := hs _ (rd_mem h0 h1)
  exact ⟨h2.1, h2.2, h3.2⟩
theorem room_val (s h : List Int) (hg : goodV s h = true) (t : Int) (h0 : 0 ≤ t) (h1 : t < s.length) : impl_Vessels_room.f s h t = some (rd s t - rd h t) := by
  have hr := good_room hg h0 h1
  have he := (goodV_le hg).2.2.1
  unfold impl_Vessels_room.f
  rw [if_pos h0, if_pos h1, if_pos (by omega), w64 (by omega) (by omega)]
theorem amount_val (s h : List Int) (hg : goodV s h = true) (f t : Int) (hm : isMv s.length f t = true) : impl_Vessels_amount.f s h f t = some (amt s h f t) := by
  obtain ⟨m1, m2, m3, m4, m5⟩ := isMv_le hm
  have he := (goodV_le hg).2.2.1
  unfold impl_Vessels_amount.f amt
  by_cases c1 : f < 0
  · rw [if_pos c1, if_pos c1, room_val s h hg t (by omega) (by omega), Option.bind_some]
  · rw [if_neg c1, if_neg c1]
    by_cases c2 : t < 0
    · rw [if_pos c2, if_pos c2, if_pos (by omega), if_pos (by omega)]
    · rw [if_neg c2, if_neg c2, if_pos (by omega), if_pos (by omega), room_val s h hg t (by omega) (by omega), Option.bind_some]
theorem veAmount_val (s h : List Int) (hg : goodV s h = true) (f t : Int) (hm : isMv s.length f t = true) : spec_veAmount.f s h f t = some (amt s h f t) := by
  obtain ⟨m1, m2, m3, m4, m5⟩ := isMv_le hm
  have he := (goodV_le hg).2.2.1
  unfold spec_veAmount.f amt
  by_cases c1 : f < 0
  · have hr := good_room hg (t := t) (by omega) (by omega)
    rw [if_neg (by omega), if_pos c1, if_pos (by omega), if_pos (by omega), if_pos (by omega), if_pos (by omega), w64 (by omega) (by omega)]
    unfold spec_l1Least.f
    rw [if_neg (by omega), Option.bind_some]
  · rw [if_pos (by omega), if_neg c1, if_pos (by omega), if_pos (by omega)]
    by_cases c2 : t < 0
    · rw [if_neg (by omega), if_pos c2]
    · have hr := good_room hg (t := t) (by omega) (by omega)
      rw [if_pos (by omega), if_neg c2, if_pos (by omega), if_pos (by omega), if_pos (by omega), w64 (by omega) (by omega)]
      unfold spec_l1Least.f mn
      by_cases c3 : rd h f < rd s t - rd h t
      · rw [if_pos c3, if_neg (by omega), Option.bind_some]
      · rw [if_neg c3, Option.bind_some]
        by_cases c4 : rd s t - rd h t < rd h f
        · rw [if_pos c4]
        · rw [if_neg c4]
          congr 1
          omega
theorem l1Own_val (l : List Int) (hl : l.length ≤ 1048576) : spec_l1Own.f l = some l := by
  unfold spec_l1Own.f
  simp only [Option.bind_some, List.length_nil, List.nil_append]
  rw [if_pos (by omega)]
theorem veMake_val (s h : List Int) (hg : goodV s h = true) (f t : Int) (hm : isMv s.length f t = true) : spec_veMake.f s h f t = some (s, moved s h f t) := by
  obtain ⟨m1, m2, m3, m4, m5⟩ := isMv_le hm
  obtain ⟨_, h5, he, _, _⟩ := goodV_le hg
  unfold spec_veMake.f moved
  rw [veAmount_val s h hg f t hm, l1Own_val s (by omega), l1Own_val h (by omega)]
  simp only [Option.bind_some]
  by_cases c1 : 0 ≤ f
  · rw [if_pos (show f ≥ 0 from c1), if_pos c1, if_pos (by omega), if_pos c1]
    by_cases c2 : 0 ≤ t
    · rw [if_pos (show t ≥ 0 from c2), if_pos c2, if_pos (by omega), if_pos c2]
    · rw [if_neg (show ¬ t ≥ 0 from c2), if_neg c2]
  · rw [if_neg (show ¬ f ≥ 0 from c1), if_neg c1]
    by_cases c2 : 0 ≤ t
    · rw [if_pos (show t ≥ 0 from c2), if_pos c2, if_pos (by omega), if_pos c2]
    · rw [if_neg (show ¬ t ≥ 0 from c2), if_neg c2]
theorem behind_val (s h : List Int) (hg : goodV s h = true) (f t : Int) (hm : isMv s.length f t = true) : impl_Vessels_behind.f s h f t = some (s, moved s h f t) := by
  obtain ⟨m1, m2, m3, m4, m5⟩ := isMv_le hm
  obtain ⟨_, h5, he, _, _⟩ := goodV_le hg
  unfold impl_Vessels_behind.f moved
  rw [own_val s h (by omega) (by omega), Option.bind_some, amount_val s h hg f t hm]
  simp only [Option.bind_some]
  by_cases c1 : 0 ≤ f
  · rw [if_pos (show f ≥ 0 from c1), if_pos c1, if_pos (by omega), if_pos c1]
    by_cases c2 : 0 ≤ t
    · rw [if_pos (show t ≥ 0 from c2), if_pos c2, if_pos (by omega), if_pos c2]
    · rw [if_neg (show ¬ t ≥ 0 from c2), if_neg c2]
  · rw [if_neg (show ¬ f ≥ 0 from c1), if_neg c1]
    by_cases c2 : 0 ≤ t
    · rw [if_pos (show t ≥ 0 from c2), if_pos c2, if_pos (by omega), if_pos c2]
    · rw [if_neg (show ¬ t ≥ 0 from c2), if_neg c2]
theorem veAsked_ev (s h : List Int) (f t : Int) (hs : s.length ≤ 1048576) (hh : h.length ≤ 1048576) : Ev (fun k => spec_veAsked.f k s h f t) (goodV s h && isMv s.length f t) := by
  unfold spec_veAsked.f
  refine Ev.bind (veGood_ev s h hs hh) ?_
  try dsimp only
  rw [veMove_val _ _ _ (by omega) (by omega)]
  cases goodV s h with
  | true => exact Ev.ifT rfl (Ev.now _)
  | false => exact Ev.ifF (by decide) (Ev.now _)
theorem isMoveV_ev (s h : List Int) (f t : Int) (hs : s.length ≤ 1048576) (hh : h.length ≤ 1048576) : Ev (fun k => impl_IsMove.f k s h f t) (goodV s h && isMv s.length f t, goodV s h) := by
  unfold impl_IsMove.f
  refine Ev.bind (areVessels_ev s h hs hh) ?_
  try dsimp only
  rw [isMove_val _ _ _ (by omega) (by omega)]
  cases goodV s h with
  | true => exact Ev.ifT rfl (Ev.now _)
  | false => exact Ev.ifF (by decide) (Ev.now _)
/-- the answer -/
def answer (s h : List Int) (f t : Int) : List Int × List Int × Bool :=
  if goodV s h = true ∧ isMv s.length f t = true then (s, moved s h f t, true) else ([], [], false)
theorem spec_ev (s h : List Int) (f t : Int) (hs : s.length ≤ 1048576) (hh : h.length ≤ 1048576) : Ev (fun k => spec_MakeMove.f k s h f t) (answer s h f t) := by
  unfold spec_MakeMove.f answer
  refine Ev.bind (veAsked_ev s h f t hs hh) ?_
  · try dsimp only
    by_cases c : goodV s h = true ∧ isMv s.length f t = true
    · rw [if_pos c, c.1, c.2, veMake_val s h c.1 f t c.2]
      exact Ev.ifT rfl (Ev.now _)
    · rw [if_neg c]
      refine Ev.ifF (fun h1 => c ?_) (Ev.now _)
      simpa using h1
theorem impl_ev (s h : List Int) (f t : Int) (hs : s.length ≤ 1048576) (hh : h.length ≤ 1048576) : Ev (fun k => impl_MakeMove.f k s h f t) (answer s h f t) := by
  unfold impl_MakeMove.f answer
  refine Ev.bind (isMoveV_ev s h f t hs hh) ?_
  · try dsimp only
    by_cases c : goodV s h = true ∧ isMv s.length f t = true
    · rw [if_pos c, c.1, c.2, behind_val s h c.1 f t c.2]
      exact Ev.ifT rfl (Ev.now _)
    · rw [if_neg c]
      refine Ev.ifF (fun h1 => c ?_) (Ev.now _)
      simpa using h1
theorem answer_le (s h : List Int) (f t : Int) : (answer s h f t).1.length ≤ 5 ∧ (answer s h f t).2.1.length ≤ 5 := by
  unfold answer
  split
  · rename_i h2
    have := goodV_le h2.1
    dsimp only
    rw [moved_len]
    exact ⟨this.2.1, by omega⟩
  · exact ⟨by simp, by simp⟩
theorem FnExactMakeMove : ∀ (l0_0 : (List Int)) (l0_1 : (List Int)) (a1_0 : Int) (a1_1 : Int), (l0_0.length ≤ maxLen ∧ ∀ y4 ∈ l0_0, (Lit.int .i64 y4).wf = true) → (l0_1.length ≤ maxLen ∧ ∀ y4 ∈ l0_1, (Lit.int .i64 y4).wf = true) → ((Lit.int .i64 a1_0).wf = true) → ((Lit.int .i64 a1_1).wf = true) → ∃ k, laws_FnExactMakeMove.f k l0_0 l0_1 a1_0 a1_1 = some true := by
  intro s h f t hs hh _ _
  refine Ev.rounds (?_ : Ev (fun k => laws_FnExactMakeMove.f k s h f t) true)
  unfold laws_FnExactMakeMove.f
  rw [szVessels_val s h hs.1 hh.1 1048576 (by omega) (by omega)]
  by_cases hl : (s.length : Int) + (h.length : Int) ≤ 1048576
  · have ha := answer_le s h f t
    have hS := spec_ev s h f t (by omega) (by omega)
    have hI := impl_ev s h f t (by omega) (by omega)
    generalize answer s h f t = r at ha hS hI
    obtain ⟨a, b, t0⟩ := r
    dsimp only at ha
    rw [if_pos hl]
    simp only [Option.bind_some, laws_toMove.f]
    refine Ev.ifF (by omega) ?_
    refine Ev.bind (toVessels_ev s h (by omega) (by omega)) ?_
    try dsimp only
    try simp only [laws_toMove.f, Option.bind_some]
    refine Ev.bind hS ?_
    try dsimp only
    refine Ev.bind (toVessels_ev s h (by omega) (by omega)) ?_
    try dsimp only
    try simp only [laws_toMove.f, Option.bind_some]
    refine Ev.bind hI ?_
    try dsimp only
    refine Ev.bind (eqVessels_ev a b (by omega) (by omega)) ?_
    try dsimp only
    refine Ev.ifT rfl (Ev.step (fun k => rfl) ?_)
    refine Ev.ifF (by simp) ?_
    refine Ev.bind (toVessels_ev s h (by omega) (by omega)) ?_
    try dsimp only
    refine Ev.bind (eqVessels_ev s h (by omega) (by omega)) ?_
    try dsimp only
    refine Ev.ifT rfl ?_
    refine Ev.bind (markVessels_ev s h 1 (by omega) (by omega) (by omega) (by omega)) ?_
    try dsimp only
    refine Ev.ifF (by omega) ?_
    refine Ev.bind (eqVessels_ev a b (by omega) (by omega)) ?_
    try dsimp only
    refine Ev.ifT rfl (Ev.step (fun k => rfl) ?_)
    refine Ev.ifF (by simp) ?_
    refine Ev.bind (markVessels_ev a b 1 (by omega) (by omega) (by omega) (by omega)) ?_
    try dsimp only
    refine Ev.bind (heldVessels_ev a.length b.length 1 (by omega) (by omega) (by omega) (by omega)) ?_
    try dsimp only
    refine Ev.ifF (by omega) (Ev.ifT rfl ?_)
    refine Ev.bind (toVessels_ev s h (by omega) (by omega)) ?_
    try dsimp only
    try simp only [laws_toMove.f, Option.bind_some]
    refine Ev.bind hI ?_
    try dsimp only
    refine Ev.bind (eqVessels_ev a b (by omega) (by omega)) ?_
    try dsimp only
    refine Ev.ifT rfl (Ev.step (fun k => rfl) ?_)
    refine Ev.ifF (by simp) ?_
    refine Ev.bind (heldVessels_ev a.length b.length 1 (by omega) (by omega) (by omega) (by omega)) ?_
    try dsimp only
    exact Ev.ifF (by omega) (Ev.ifT rfl (Ev.now _))
  · rw [if_neg hl]
    simp only [Option.bind_some]
    exact Ev.ifT (by decide) (Ev.now _)

end Go.Proofs.Ytobkbpoamicjgaa.Pure

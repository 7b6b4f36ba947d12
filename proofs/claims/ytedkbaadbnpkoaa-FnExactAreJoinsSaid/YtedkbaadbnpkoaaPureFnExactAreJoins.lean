/- The pure statement of the law FnExactAreJoins: what its printed functions compute is true for every input. No conditions. -/
import Derived.Test.YtedkbaadbnpkoaaPFnExactAreJoinsx4
import Derived.Test.YtedkbaadbnpkoaaPl
namespace Go.Proofs.Ytedkbaadbnpkoaa.Pure
open Go.RowKit Go.Proofs.Ytedkbaadbnpkoaa.PFnExactAreJoins Go.Proofs.YtedkbaadbnpkoaaW.PrintWords Go.Proofs.YtedkbaadbnpkoaaW.PrintLast Go.Proofs.Ytedkbaadbnpkoaa.Pl
set_option linter.unusedVariables false
set_option linter.unusedSimpArgs false

theorem within_val (x a b : Int) : impl_within.f x a b = some (decide (a ≤ x ∧ x ≤ b)) := by
  unfold impl_within.f
  by_cases h : a ≤ x <;> simp [h]
theorem in_val (x a b : Int) : spec_l1In.f x a b = some (decide (a ≤ x ∧ x ≤ b)) := within_val x a b
theorem toIntS_ev (l : List Int) (hl : l.length ≤ 1048576) : Ev (fun k => laws_toIntS.f k l) l := by
  refine Ev.congr (fun k => ?_) (copy_ev 0 (l0 := laws_toIntS.l0) (fun _ _ _ _ => rfl) l 0 (by omega))
  show laws_toIntS.f k l = _
  unfold laws_toIntS.f
  rw [if_pos (by omega), if_pos (by omega)]
theorem eqIntS_ev (l : List Int) (hl : l.length ≤ 1048576) : Ev (fun k => laws_eqIntS.f k l l) true := by
  refine Ev.congr (fun k => ?_) (same_ev (l0 := laws_eqIntS.l0) (fun k x i => by simp only [laws_eqIntS.l0, if_true]) l (by omega))
  show laws_eqIntS.f k l l = _
  unfold laws_eqIntS.f
  rw [if_pos rfl]
/-- all elements lie in some bounds -/
def allIn (l : List Int) (a b : Int) : Bool := l.all fun x => decide (a ≤ x ∧ x ≤ b)
theorem areWithin_val (l : List Int) (a b : Int) : impl_areWithin.f l a b = some (allIn l a b) := by
  unfold impl_areWithin.f allIn
  congr 1
  rw [List.any_eq_not_all_not, Bool.not_not]
  congr 1
  funext x
  simp
theorem l1All_ev (l : List Int) (a b : Int) (hl : l.length ≤ 1048576) : Ev (fun k => spec_l1All.f k l a b) (allIn l a b) := by
  refine all_ev (l0 := fun k x i => spec_l1All.l0 k a b x (x.length : Int) i) 0 (fun x => decide (a ≤ x ∧ x ≤ b)) (fun k x i h0 => ?_) l (by omega)
  show spec_l1All.l0 (k + 1) a b x (x.length : Int) i = _
  simp only [spec_l1All.l0, in_val, Option.bind_some]
  by_cases hi : i < (x.length : Int)
  · rw [if_pos hi, if_pos h0, if_pos hi, if_pos hi]
    rfl
  · rw [if_neg hi, if_neg hi]
theorem L3_get {l : List (List Int)} {j : Nat} (hj : j < l.length) : rd_L3 l (j : Int) = l[j]'hj := by
  unfold rd_L3
  rw [Int.toNat_natCast, getD_eq [] hj]
theorem szIntS_val (x : List Int) (a : Int) (hx : x.length ≤ 9223372036854775807) (h0 : 0 ≤ a) (h1 : a ≤ 1048576) : laws_szIntS.f x a = some (if a - (x.length : Int) < 0 then -1 else a - (x.length : Int)) := by
  unfold laws_szIntS.f
  rw [w64 (x := a - (x.length : Int)) (by omega) (by omega)]
  split <;> rfl
theorem szIntSS_loop (l : List (List Int)) (hl : l.length ≤ 1048576) (hy : ∀ y ∈ l, y.length ≤ 9223372036854775807) (m : Nat) : ∀ (i a : Int), 0 ≤ i → (l.length : Int) - i = m → 0 ≤ a → a ≤ 1048576 →
    ∃ s, Ev (fun k => laws_szIntSS.l0 k l a i) s ∧ (s < 0 ∨ ∀ j : Int, i ≤ j → j < (l.length : Int) → (rd_L3 l j).length ≤ 1048576) := by
  induction m with
  | zero =>
    intro i a h0 hm ha0 ha1
    exact ⟨a, Ev.step (f := fun _ => some a) (fun k => by simp only [laws_szIntSS.l0]; rw [if_neg (by omega)]) (Ev.now _), .inr (fun j h1 h2 => absurd h2 (by omega))⟩
  | succ m ih =>
    intro i a h0 hm ha0 ha1
    have hj : i.toNat < l.length := by omega
    have hr : (rd_L3 l i).length ≤ 9223372036854775807 := by
      unfold rd_L3
      rw [getD_eq [] hj]
      exact hy _ (List.getElem_mem hj)
    have hv := szIntS_val (rd_L3 l i) a hr ha0 ha1
    by_cases hn : a - ((rd_L3 l i).length : Int) < 0
    · rw [if_pos hn] at hv
      refine ⟨-1, Ev.step (f := fun _ => some (-1)) (fun k => ?_) (Ev.now _), .inl (by omega)⟩
      simp only [laws_szIntSS.l0]
      rw [if_pos (by omega), if_pos h0, hv, Option.bind_some, if_pos (by omega)]
    · rw [if_neg hn] at hv
      obtain ⟨s, k1, k2⟩ := ih (i + 1) (a - ((rd_L3 l i).length : Int)) (by omega) (by omega) (by omega) (by omega)
      refine ⟨s, Ev.step (f := fun k => laws_szIntSS.l0 k l (a - ((rd_L3 l i).length : Int)) (i + 1)) (fun k => ?_) k1, ?_⟩
      · simp only [laws_szIntSS.l0]
        rw [if_pos (by omega), if_pos h0, hv, Option.bind_some, if_neg hn, w64 (x := i + 1) (by omega) (by omega)]
      · refine k2.imp id (fun k3 j h1 h2 => ?_)
        by_cases e : j = i
        · subst e
          omega
        · exact k3 j (by omega) h2
theorem szIntSS_ev (l : List (List Int)) (a : Int) (hl0 : l.length ≤ 9223372036854775807) (hy : ∀ y ∈ l, y.length ≤ 9223372036854775807) (ha0 : 0 ≤ a) (ha1 : a ≤ 1048576) :
    ∃ s, Ev (fun k => laws_szIntSS.f k l a) s ∧ (s < 0 ∨ (l.length ≤ 1048576 ∧ ∀ j : Int, 0 ≤ j → j < (l.length : Int) → (rd_L3 l j).length ≤ 1048576)) := by
  unfold laws_szIntSS.f
  rw [w64 (x := a - (l.length : Int)) (by omega) (by omega)]
  by_cases hn : a - (l.length : Int) < 0
  · exact ⟨-1, Ev.ifT hn (Ev.now _), .inl (by omega)⟩
  · obtain ⟨s, k1, k2⟩ := szIntSS_loop l (by omega) hy l.length 0 (a - (l.length : Int)) (by omega) (by omega) (by omega) (by omega)
    exact ⟨s, Ev.ifF hn k1, k2.imp id (fun k3 => ⟨by omega, k3⟩)⟩
theorem toIntSS_ev (l : List (List Int)) (hl : l.length ≤ 1048576) (hy : ∀ j : Int, 0 ≤ j → j < (l.length : Int) → (rd_L3 l j).length ≤ 1048576) : Ev (fun k => laws_toIntSS.f k l) l := by
  have key : ∀ (m : Nat) (i : Int) (y : List (List Int)), 0 ≤ i → (l.length : Int) - i = m → y.length = l.length → (∀ j : Nat, j < i.toNat → y[j]? = l[j]?) → Ev (fun k => laws_toIntSS.l0 k l y i) l := by
    intro m
    induction m with
    | zero =>
      intro i y h0 hm hyl hj
      refine Ev.step (f := fun _ => some y) (fun k => by simp only [laws_toIntSS.l0]; rw [if_neg (by omega)]) ?_
      have : y = l := by
        apply List.ext_getElem?
        intro j
        by_cases h : j < l.length
        · exact hj j (by omega)
        · rw [List.getElem?_eq_none (by omega), List.getElem?_eq_none (by omega)]
      rw [this]
      exact Ev.now _
    | succ m ih =>
      intro i y h0 hm hyl hj
      have hi : i.toNat < l.length := by omega
      refine Ev.step (f := fun k => (laws_toIntS.f k (rd_L3 l i)).bind fun t => laws_toIntSS.l0 k l (y.set i.toNat t) (i + 1)) (fun k => ?_) ?_
      · simp only [laws_toIntSS.l0]
        rw [if_pos (by omega), if_pos h0]
        simp only [if_pos (show i < (y.length : Int) by omega)]
        rw [w64 (x := i + 1) (by omega) (by omega)]
      · refine Ev.bind (toIntS_ev _ (hy i h0 (by omega))) ?_
        refine ih (i + 1) (y.set i.toNat (rd_L3 l i)) (by omega) (by omega) (by rw [List.length_set]; exact hyl) (fun j hlt => ?_)
        by_cases e : j = i.toNat
        · subst e
          rw [List.getElem?_set_self (by omega), List.getElem?_eq_getElem hi]
          unfold rd_L3
          rw [getD_eq [] hi]
        · rw [List.getElem?_set_ne (fun e' => e e'.symm)]
          exact hj j (by omega)
  unfold laws_toIntSS.f
  refine Ev.ifT (by omega) (Ev.ifT (by omega) ?_)
  exact key l.length 0 _ (by omega) (by omega) (by simp) (fun j hj => absurd hj (by simp))
theorem eqIntSS_ev (l : List (List Int)) (hl : l.length ≤ 1048576) (hy : ∀ j : Int, 0 ≤ j → j < (l.length : Int) → (rd_L3 l j).length ≤ 1048576) : Ev (fun k => laws_eqIntSS.f k l l) true := by
  have key : ∀ (m : Nat) (i : Int), 0 ≤ i → (l.length : Int) - i = m → Ev (fun k => laws_eqIntSS.l0 k l l i) true := by
    intro m
    induction m with
    | zero =>
      intro i h0 hm
      exact Ev.step (f := fun _ => some true) (fun k => by simp only [laws_eqIntSS.l0]; rw [if_neg (by omega)]) (Ev.now _)
    | succ m ih =>
      intro i h0 hm
      refine Ev.step (f := fun k => (laws_eqIntS.f k (rd_L3 l i) (rd_L3 l i)).bind fun t => if t = true then laws_eqIntSS.l0 k l l (i + 1) else some false) (fun k => ?_) ?_
      · simp only [laws_eqIntSS.l0]
        rw [if_pos (by omega), if_pos h0, if_pos (by omega), w64 (x := i + 1) (by omega) (by omega)]
      · refine Ev.bind (eqIntS_ev _ (hy i h0 (by omega))) ?_
        exact Ev.ifT rfl (ih (i + 1) (by omega) (by omega))
  unfold laws_eqIntSS.f
  exact Ev.ifT rfl (key l.length 0 (by omega) (by omega))
theorem szTankS_val (l : List S66) (hl : l.length ≤ 9223372036854775807) : laws_szTankS.f l 1048576 = some (if (1048576 : Int) - (l.length : Int) < 0 then -1 else 1048576 - (l.length : Int)) := by
  unfold laws_szTankS.f
  rw [w64 (x := 1048576 - (l.length : Int)) (by omega) (by omega)]
  split <;> rfl
def toT (l : List S66) : List S63 := l.map fun x => ⟨x.f0, x.f1, x.f2⟩
theorem toT_length (l : List S66) : (toT l).length = l.length := by simp [toT]
theorem toTankS_ev (l : List S66) (hl : l.length ≤ 1048576) : Ev (fun k => laws_toTankS.f k l) (toT l) := by
  have key : ∀ (m : Nat) (i : Int) (y : List S63), 0 ≤ i → (l.length : Int) - i = m → y.length = l.length → (∀ j : Nat, j < i.toNat → y[j]? = (toT l)[j]?) → Ev (fun k => laws_toTankS.l0 k l y i) (toT l) := by
    intro m
    induction m with
    | zero =>
      intro i y h0 hm hyl hj
      refine Ev.step (f := fun _ => some y) (fun k => by simp only [laws_toTankS.l0]; rw [if_neg (by omega)]) ?_
      have : y = toT l := by
        apply List.ext_getElem?
        intro j
        by_cases h : j < l.length
        · exact hj j (by omega)
        · rw [List.getElem?_eq_none (by omega), List.getElem?_eq_none (by rw [toT_length]; omega)]
      rw [this]
      exact Ev.now _
    | succ m ih =>
      intro i y h0 hm hyl hj
      have hi : i.toNat < l.length := by omega
      refine Ev.step (f := fun k => laws_toTankS.l0 k l (y.set i.toNat ⟨(rd_T66 l i).f0, (rd_T66 l i).f1, (rd_T66 l i).f2⟩) (i + 1)) (fun k => ?_) ?_
      · simp only [laws_toTankS.l0, laws_toTank.f, Option.bind_some]
        rw [if_pos (by omega), if_pos h0, if_pos (by omega), w64 (x := i + 1) (by omega) (by omega)]
      · refine ih (i + 1) _ (by omega) (by omega) (by rw [List.length_set]; exact hyl) (fun j hlt => ?_)
        by_cases e : j = i.toNat
        · subst e
          rw [List.getElem?_set_self (by omega)]
          simp only [toT, List.getElem?_map, List.getElem?_eq_getElem hi, Option.map_some]
          unfold rd_T66
          rw [getD_eq z66 hi]
        · rw [List.getElem?_set_ne (fun e' => e e'.symm)]
          exact hj j (by omega)
  unfold laws_toTankS.f
  refine Ev.ifT (by omega) (Ev.ifT (by omega) ?_)
  exact key l.length 0 _ (by omega) (by omega) (by simp) (fun j hj => absurd hj (by simp))
theorem eqTankS_ev (l : List S63) (hl : l.length ≤ 1048576) : Ev (fun k => laws_eqTankS.f k l l) true := by
  refine Ev.congr (fun k => ?_) (same_ev (l0 := laws_eqTankS.l0) (fun k x i => by simp only [laws_eqTankS.l0, laws_eqTank.f, if_true, Option.bind_some]) l (by omega))
  show laws_eqTankS.f k l l = _
  unfold laws_eqTankS.f
  rw [if_pos rfl]
def goodT (l : List S63) : Bool := decide (1 ≤ (l.length : Int) ∧ (l.length : Int) ≤ 6) && !(l.any fun x => !tankOk x)
theorem leTanks_ev (l : List S63) (hl : l.length ≤ 1048576) : Ev (fun k => spec_leTanks.f k l) (goodT l) := by
  have ht : ∀ x : S63, spec_leTank.f x.f0 x.f1 x.f2 = some (tankOk x) := fun x => isTank_val x.f0 x.f1 x.f2
  unfold spec_leTanks.f goodT
  rw [in_val]
  refine Ev.now_ ?_
  by_cases h : 1 ≤ (l.length : Int) ∧ (l.length : Int) ≤ 6
  · rw [decide_eq_true h, Bool.true_and]
    refine Ev.ifT rfl ?_
    have e : (!(l.any fun x => !tankOk x)) = l.all tankOk := by
      rw [List.any_eq_not_all_not, Bool.not_not]
      congr 1
      funext x
      simp
    rw [e]
    refine all_ev (l0 := fun k x i => spec_leTanks.l0 k x (x.length : Int) i) z63 tankOk (fun k x i h0 => ?_) l (by omega)
    show spec_leTanks.l0 (k + 1) x (x.length : Int) i = _
    simp only [spec_leTanks.l0, ht, Option.bind_some]
    by_cases hi : i < (x.length : Int)
    · rw [if_pos hi, if_pos h0, if_pos hi, if_pos hi]
      rfl
    · rw [if_neg hi, if_neg hi]
  · rw [decide_eq_false h, Bool.false_and]
    exact Ev.ifF (by decide) (Ev.now _)
theorem joins_ev (n : Nat) (l : List (List Int)) (hl : l.length ≤ 1048576) (hy : ∀ j : Int, 0 ≤ j → j < (l.length : Int) → (rd_L3 l j).length ≤ 1048576) : Ev (fun k => spec_leJoins.f k (n : Int) l) (decide ((l.length : Int) ≤ 15) && !(l.any (joinBad n))) := by
  have key : ∀ (m : Nat) (i : Int), 0 ≤ i → (l.length : Int) - i = m → Ev (fun k => spec_leJoins.l0 k (n : Int) l (l.length : Int) i) (!((l.drop i.toNat).any (joinBad n))) := by
    intro m
    induction m with
    | zero =>
      intro i h0 hm
      rw [List.drop_eq_nil_of_le (by omega)]
      exact Ev.step (f := fun _ => some true) (fun k => by simp only [spec_leJoins.l0]; rw [if_neg (by omega)]) (Ev.now _)
    | succ m ih =>
      intro i h0 hm
      have hi : i.toNat < l.length := by omega
      have hd : l.drop i.toNat = rd_L3 l i :: l.drop (i + 1).toNat := by
        rw [List.drop_eq_getElem_cons hi, show (i + 1).toNat = i.toNat + 1 by omega]
        congr 1
        unfold rd_L3
        rw [getD_eq [] hi]
      rw [hd, List.any_cons]
      have hx := hy i h0 (by omega)
      generalize hX : rd_L3 l i = x at hx
      by_cases c2 : (x.length : Int) = 2
      · refine Ev.step (f := fun k => (spec_l1All.f k x 0 (wrap64 ((n : Int) - 1))).bind fun t148 => (if t148 = true then (if rd x 0 = rd x 1 then (some false) else (spec_leJoins.l0 k (n : Int) l (l.length : Int) (i + 1))) else (some false))) (fun k => ?_) ?_
        · simp only [spec_leJoins.l0]
          rw [if_pos (by omega), if_pos h0, if_pos (by omega), hX, if_pos c2]
          simp only [if_pos (show 0 < (x.length : Int) by omega), if_pos (show 1 < (x.length : Int) by omega)]
          rw [w64 (x := i + 1) (by omega) (by omega)]
        · refine Ev.bind (l1All_ev x 0 (wrap64 ((n : Int) - 1)) hx) ?_
          have e : (!(x.any fun z => !(decide (0 ≤ z) && decide (z ≤ wrap64 ((n : Int) - 1))))) = allIn x 0 (wrap64 ((n : Int) - 1)) := by
            have := areWithin_val x 0 (wrap64 ((n : Int) - 1))
            unfold impl_areWithin.f at this
            exact Option.some.inj this
          have hb : joinBad n x = (if allIn x 0 (wrap64 ((n : Int) - 1)) = true then (rd x 0 == rd x 1) else true) := by
            unfold joinBad
            rw [if_pos (by omega), e]
          rw [hb]
          cases hA : allIn x 0 (wrap64 ((n : Int) - 1)) with
          | false =>
            rw [if_neg (by decide), Bool.true_or, Bool.not_true]
            exact Ev.ifF (by decide) (Ev.now _)
          | true =>
            rw [if_pos rfl]
            refine Ev.ifT rfl ?_
            by_cases e3 : rd x 0 = rd x 1
            · rw [show (rd x 0 == rd x 1) = true by simpa using e3, Bool.true_or, Bool.not_true]
              exact Ev.ifT e3 (Ev.now _)
            · rw [show (rd x 0 == rd x 1) = false by simpa using e3, Bool.false_or]
              exact Ev.ifF e3 (ih (i + 1) (by omega) (by omega))
      · have hb : joinBad n x = true := by
          unfold joinBad
          rw [if_neg (by omega)]
        rw [hb, Bool.true_or, Bool.not_true]
        refine Ev.step (f := fun _ => some false) (fun k => ?_) (Ev.now _)
        simp only [spec_leJoins.l0]
        rw [if_pos (by omega), if_pos h0, if_pos (by omega), hX, if_neg c2]
  unfold spec_leJoins.f
  by_cases c : (l.length : Int) ≤ 15
  · rw [decide_eq_true c, Bool.true_and]
    exact Ev.ifF (by omega) (key l.length 0 (by omega) (by omega))
  · rw [decide_eq_false c, Bool.false_and]
    exact Ev.ifT (by omega) (Ev.now _)
theorem FnExactAreJoins : ∀ (l0 : (List S66)) (l1 : (List (List Int))), (l0.length ≤ maxLen ∧ ∀ y2 ∈ l0, ((Lit.int .i64 y2.f0).wf = true) ∧ ((Lit.int .i64 y2.f1).wf = true) ∧ ((Lit.int .i64 y2.f2).wf = true)) → (l1.length ≤ maxLen ∧ ∀ y2 ∈ l1, y2.length ≤ maxLen ∧ ∀ y2_ ∈ y2, (Lit.int .i64 y2_).wf = true) → ∃ k, laws_FnExactAreJoins.f k l0 l1 = some true := by
  intro t l ht hl
  refine Ev.rounds (?_ : Ev (fun k => laws_FnExactAreJoins.f k t l) true)
  have b1 := ht.1
  have b2 := hl.1
  simp only [maxLen] at b1 b2
  unfold laws_FnExactAreJoins.f
  rw [szTankS_val t (by omega)]
  refine Ev.now_ ?_
  by_cases hn : (1048576 : Int) - (t.length : Int) < 0
  · rw [if_pos hn]
    exact Ev.ifT (by decide) (Ev.now _)
  rw [if_neg hn]
  refine Ev.ifF hn ?_
  obtain ⟨s, k1, k2⟩ := szIntSS_ev l (1048576 - (t.length : Int)) (by omega) (fun y hy => by have := (hl.2 y hy).1; simp only [maxLen] at this; omega) (by omega) (by omega)
  refine Ev.bind k1 ?_
  try dsimp only
  by_cases hs : s < 0
  · exact Ev.ifT hs (Ev.now _)
  refine Ev.ifF hs ?_
  obtain ⟨hl1, hy⟩ := k2.resolve_left hs
  have ht1 : t.length ≤ 1048576 := by omega
  have hT1 : (toT t).length ≤ 1048576 := by rw [toT_length]; exact ht1
  have hS : Ev (fun k => spec_AreJoins.f k (toT t) l) (if goodT (toT t) = true then (decide ((l.length : Int) ≤ 15) && !(l.any (joinBad (toT t).length)), true) else (false, false)) := by
    unfold spec_AreJoins.f
    refine Ev.bind (leTanks_ev (toT t) hT1) ?_
    try dsimp only
    cases goodT (toT t) with
    | true => exact Ev.ifT rfl (Ev.bind (joins_ev (toT t).length l hl1 hy) (Ev.now _))
    | false => exact Ev.ifF (by decide) (Ev.now _)
  have hI : impl_AreJoins.f (toT t) l = some (if goodT (toT t) = true then (decide ((l.length : Int) ≤ 15) && !(l.any (joinBad (toT t).length)), true) else (false, false)) := by
    unfold impl_AreJoins.f impl_AreTanks.f
    show (if goodT (toT t) = true then _ else _) = _
    cases goodT (toT t) <;> rfl
  generalize (if goodT (toT t) = true then (decide ((l.length : Int) ≤ 15) && !(l.any (joinBad (toT t).length)), true) else (false, false)) = q at hS hI
  obtain ⟨a, b⟩ := q
  refine Ev.bind (toTankS_ev t ht1) ?_
  try dsimp only
  refine Ev.bind (toIntSS_ev l hl1 hy) ?_
  try dsimp only
  refine Ev.bind hS ?_
  try dsimp only
  refine Ev.bind (toTankS_ev t ht1) ?_
  try dsimp only
  refine Ev.bind (toIntSS_ev l hl1 hy) ?_
  try dsimp only
  rw [hI]
  refine Ev.now_ ?_
  try dsimp only
  refine Ev.ifF (by simp) ?_
  refine Ev.step (fun k => rfl) ?_
  refine Ev.ifF (by simp) ?_
  refine Ev.bind (toTankS_ev t ht1) ?_
  try dsimp only
  refine Ev.bind (eqTankS_ev (toT t) hT1) ?_
  try dsimp only
  refine Ev.ifT rfl ?_
  refine Ev.bind (toIntSS_ev l hl1 hy) ?_
  try dsimp only
  refine Ev.bind (eqIntSS_ev l hl1 hy) ?_
  exact Ev.ifT rfl (Ev.now _)

end Go.Proofs.Ytedkbaadbnpkoaa.Pure

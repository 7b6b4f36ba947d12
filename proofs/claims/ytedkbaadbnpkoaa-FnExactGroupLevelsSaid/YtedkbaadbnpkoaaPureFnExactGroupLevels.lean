/- The pure statement of the law FnExactGroupLevels: what its printed functions compute is true for every input. No conditions. -/
import Derived.Test.YtedkbaadbnpkoaaPFnExactGroupLevelsx14
import Derived.Test.YtedkbaadbnpkoaaPl
namespace Go.Proofs.Ytedkbaadbnpkoaa.Pure
open Go.RowKit Go.Proofs.Ytedkbaadbnpkoaa.PFnExactGroupLevels Go.Proofs.YtedkbaadbnpkoaaW.PrintWords Go.Proofs.YtedkbaadbnpkoaaW.PrintLast Go.Proofs.Ytedkbaadbnpkoaa.Pl
set_option linter.unusedVariables false
set_option linter.unusedSimpArgs false

theorem within_val (x a b : Int) : impl_within.f x a b = some (decide (a ≤ x ∧ x ≤ b)) := by
 unfold impl_within.f
 by_cases h : a ≤ x <;> simp [h]
theorem in_val (x a b : Int) : spec_l1In.f x a b = some (decide (a ≤ x ∧ x ≤ b)) := within_val x a b
theorem toIntS_ev (l : List Int) (hl : l.length ≤ 1048576) : Ev (fun k => laws_toIntS.f k l) l := by
 refine Ev.congr (fun k => ?_) (copy_ev 0 (l0 := laws_toIntS.l0) (fun _ _ _ _ => rfl) l 0 (by omega))
 show laws_toIntS.f k l = _
 unfold laws_toIntS.f
 rw [if_pos (by omega), if_pos (by omega)]
theorem eqIntS_ev (l : List Int) (hl : l.length ≤ 1048576) : Ev (fun k => laws_eqIntS.f k l l) true := by
 refine Ev.congr (fun k => ?_) (same_ev (l0 := laws_eqIntS.l0) (fun k x i => by simp only [laws_eqIntS.l0, if_true]) l (by omega))
 show laws_eqIntS.f k l l = _
 unfold laws_eqIntS.f
 rw [if_pos rfl]
/-- all elements lie in some bounds -/
def allIn (l : List Int) (a b : Int) : Bool := l.all fun x => decide (a ≤ x ∧ x ≤ b)
theorem areWithin_val (l : List Int) (a b : Int) : impl_areWithin.f l a b = some (allIn l a b) := by
 unfold impl_areWithin.f allIn
 congr 1
 rw [List.any_eq_not_all_not, Bool.not_not]
 congr 1
 funext x
 simp
theorem l1All_ev (l : List Int) (a b : Int) (hl : l.length ≤ 1048576) : Ev (fun k => spec_l1All.f k l a b) (allIn l a b) := by
 refine all_ev (l0 := fun k x i => spec_l1All.l0 k a b x (x.length : Int) i) 0 (fun x => decide (a ≤ x ∧ x ≤ b)) (fun k x i h0 => ?_) l (by omega)
 show spec_l1All.l0 (k + 1) a b x (x.length : Int) i = _
 simp only [spec_l1All.l0, in_val, Option.bind_some]
 by_cases hi : i < (x.length : Int)
 ·rw [if_pos hi, if_pos h0, if_pos hi, if_pos hi]
  rfl
 ·rw [if_neg hi, if_neg hi]
theorem szIntS_val (x : List Int) (a : Int) (hx : x.length ≤ 9223372036854775807) (h0 : 0 ≤ a) (h1 : a ≤ 1048576) : laws_szIntS.f x a = some (if a - (x.length : Int) < 0 then -1 else a - (x.length : Int)) := by
 unfold laws_szIntS.f
 rw [w64 (x := a - (x.length : Int)) (by omega) (by omega)]
 split <;> rfl
theorem toIntSS_ev (l : List (List Int)) (hl : l.length ≤ 1048576) (hy : ∀ j : Int, 0 ≤ j → j < (l.length : Int) → (rd_L4 l j).length ≤ 1048576) : Ev (fun k => laws_toIntSS.f k l) l := by
 have key : ∀ (m : Nat) (i : Int) (y : List (List Int)), 0 ≤ i → (l.length : Int) - i = m → y.length = l.length → (∀ j : Nat, j < i.toNat → y[j]? = l[j]?) → Ev (fun k => laws_toIntSS.l0 k l y i) l := by
  intro m
  induction m with
  | zero =>
   intro i y h0 hm hyl hj
   refine Ev.step (f := fun _ => some y) (fun k => by simp only [laws_toIntSS.l0]; rw [if_neg (by omega)]) ?_
   have : y = l := by
    apply List.ext_getElem?
    intro j
    by_cases h : j < l.length
    ·exact hj j (by omega)
    ·rw [List.getElem?_eq_none (by omega), List.getElem?_eq_none (by omega)]
   rw [this]
   exact Ev.now _
  | succ m ih =>
   intro i y h0 hm hyl hj
   have hi : i.toNat < l.length := by omega
   refine Ev.step (f := fun k => (laws_toIntS.f k (rd_L4 l i)).bind fun t => laws_toIntSS.l0 k l (y.set i.toNat t) (i + 1)) (fun k => ?_) ?_
   ·simp only [laws_toIntSS.l0]
    rw [if_pos (by omega), if_pos h0]
    simp only [if_pos (show i < (y.length : Int) by omega)]
    rw [w64 (x := i + 1) (by omega) (by omega)]
   ·refine Ev.bind (toIntS_ev _ (hy i h0 (by omega))) ?_
    refine ih (i + 1) (y.set i.toNat (rd_L4 l i)) (by omega) (by omega) (by rw [List.length_set]; exact hyl) (fun j hlt => ?_)
    by_cases e : j = i.toNat
    ·subst e
     rw [List.getElem?_set_self (by omega), List.getElem?_eq_getElem hi]
     unfold rd_L4
     rw [getD_eq [] hi]
    ·rw [List.getElem?_set_ne (fun e' => e e'.symm)]
     exact hj j (by omega)
 unfold laws_toIntSS.f
 refine Ev.ifT (by omega) (Ev.ifT (by omega) ?_)
 exact key l.length 0 _ (by omega) (by omega) (by simp) (fun j hj => absurd hj (by simp))
theorem eqIntSS_ev (l : List (List Int)) (hl : l.length ≤ 1048576) (hy : ∀ j : Int, 0 ≤ j → j < (l.length : Int) → (rd_L4 l j).length ≤ 1048576) : Ev (fun k => laws_eqIntSS.f k l l) true := by
 have key : ∀ (m : Nat) (i : Int), 0 ≤ i → (l.length : Int) - i = m → Ev (fun k => laws_eqIntSS.l0 k l l i) true := by
  intro m
  induction m with
  | zero =>
   intro i h0 hm
   exact Ev.step (f := fun _ => some true) (fun k => by simp only [laws_eqIntSS.l0]; rw [if_neg (by omega)]) (Ev.now _)
  | succ m ih =>
   intro i h0 hm
   refine Ev.step (f := fun k => (laws_eqIntS.f k (rd_L4 l i) (rd_L4 l i)).bind fun t => if t = true then laws_eqIntSS.l0 k l l (i + 1) else some false) (fun k => ?_) ?_
   ·simp only [laws_eqIntSS.l0]
    rw [if_pos (by omega), if_pos h0, if_pos (by omega), w64 (x := i + 1) (by omega) (by omega)]
   ·refine Ev.bind (eqIntS_ev _ (hy i h0 (by omega))) ?_
    exact Ev.ifT rfl (ih (i + 1) (by omega) (by omega))
 unfold laws_eqIntSS.f
 exact Ev.ifT rfl (key l.length 0 (by omega) (by omega))
theorem szTankS_val (l : List S66) (hl : l.length ≤ 9223372036854775807) : laws_szTankS.f l 1048576 = some (if (1048576 : Int) - (l.length : Int) < 0 then -1 else 1048576 - (l.length : Int)) := by
 unfold laws_szTankS.f
 rw [w64 (x := 1048576 - (l.length : Int)) (by omega) (by omega)]
 split <;> rfl
def toT (l : List S66) : List S63 := l.map fun x => ⟨x.f0, x.f1, x.f2⟩
theorem toT_length (l : List S66) : (toT l).length = l.length := by simp [toT]
theorem toTankS_ev (l : List S66) (hl : l.length ≤ 1048576) : Ev (fun k => laws_toTankS.f k l) (toT l) := by
 have key : ∀ (m : Nat) (i : Int) (y : List S63), 0 ≤ i → (l.length : Int) - i = m → y.length = l.length → (∀ j : Nat, j < i.toNat → y[j]? = (toT l)[j]?) → Ev (fun k => laws_toTankS.l0 k l y i) (toT l) := by
  intro m
  induction m with
  | zero =>
   intro i y h0 hm hyl hj
   refine Ev.step (f := fun _ => some y) (fun k => by simp only [laws_toTankS.l0]; rw [if_neg (by omega)]) ?_
   have : y = toT l := by
    apply List.ext_getElem?
    intro j
    by_cases h : j < l.length
    ·exact hj j (by omega)
    ·rw [List.getElem?_eq_none (by omega), List.getElem?_eq_none (by rw [toT_length]; omega)]
   rw [this]
   exact Ev.now _
  | succ m ih =>
   intro i y h0 hm hyl hj
   have hi : i.toNat < l.length := by omega
   refine Ev.step (f := fun k => laws_toTankS.l0 k l (y.set i.toNat ⟨(rd_T66 l i).f0, (rd_T66 l i).f1, (rd_T66 l i).f2⟩) (i + 1)) (fun k => ?_) ?_
   ·simp only [laws_toTankS.l0, laws_toTank.f, Option.bind_some]
    rw [if_pos (by omega), if_pos h0, if_pos (by omega), w64 (x := i + 1) (by omega) (by omega)]
   ·refine ih (i + 1) _ (by omega) (by omega) (by rw [List.length_set]; exact hyl) (fun j hlt => ?_)
    by_cases e : j = i.toNat
    ·subst e
     rw [List.getElem?_set_self (by omega)]
     simp only [toT, List.getElem?_map, List.getElem?_eq_getElem hi, Option.map_some]
     unfold rd_T66
     rw [getD_eq z66 hi]
    ·rw [List.getElem?_set_ne (fun e' => e e'.symm)]
     exact hj j (by omega)
 unfold laws_toTankS.f
 refine Ev.ifT (by omega) (Ev.ifT (by omega) ?_)
 exact key l.length 0 _ (by omega) (by omega) (by simp) (fun j hj => absurd hj (by simp))
theorem eqTankS_ev (l : List S63) (hl : l.length ≤ 1048576) : Ev (fun k => laws_eqTankS.f k l l) true := by
 refine Ev.congr (fun k => ?_) (same_ev (l0 := laws_eqTankS.l0) (fun k x i => by simp only [laws_eqTankS.l0, laws_eqTank.f, if_true, Option.bind_some]) l (by omega))
 show laws_eqTankS.f k l l = _
 unfold laws_eqTankS.f
 rw [if_pos rfl]
def goodT (l : List S63) : Bool := decide (1 ≤ (l.length : Int) ∧ (l.length : Int) ≤ 6) && !(l.any fun x => !tankOk x)
theorem leTanks_ev (l : List S63) (hl : l.length ≤ 1048576) : Ev (fun k => spec_leTanks.f k l) (goodT l) := by
 have ht : ∀ x : S63, spec_leTank.f x.f0 x.f1 x.f2 = some (tankOk x) := fun x => isTank_val x.f0 x.f1 x.f2
 unfold spec_leTanks.f goodT
 rw [in_val]
 refine Ev.now_ ?_
 by_cases h : 1 ≤ (l.length : Int) ∧ (l.length : Int) ≤ 6
 ·rw [decide_eq_true h, Bool.true_and]
  refine Ev.ifT rfl ?_
  have e : (!(l.any fun x => !tankOk x)) = l.all tankOk := by
   rw [List.any_eq_not_all_not, Bool.not_not]
   congr 1
   funext x
   simp
  rw [e]
  refine all_ev (l0 := fun k x i => spec_leTanks.l0 k x (x.length : Int) i) z63 tankOk (fun k x i h0 => ?_) l (by omega)
  show spec_leTanks.l0 (k + 1) x (x.length : Int) i = _
  simp only [spec_leTanks.l0, ht, Option.bind_some]
  by_cases hi : i < (x.length : Int)
  ·rw [if_pos hi, if_pos h0, if_pos hi, if_pos hi]
   rfl
  ·rw [if_neg hi, if_neg hi]
 ·rw [decide_eq_false h, Bool.false_and]
  exact Ev.ifF (by decide) (Ev.now _)
theorem joins_ev (n : Nat) (l : List (List Int)) (hl : l.length ≤ 1048576) (hy : ∀ j : Int, 0 ≤ j → j < (l.length : Int) → (rd_L4 l j).length ≤ 1048576) : Ev (fun k => spec_leJoins.f k (n : Int) l) (decide ((l.length : Int) ≤ 15) && !(l.any (joinBad n))) := by
 have key : ∀ (m : Nat) (i : Int), 0 ≤ i → (l.length : Int) - i = m → Ev (fun k => spec_leJoins.l0 k (n : Int) l (l.length : Int) i) (!((l.drop i.toNat).any (joinBad n))) := by
  intro m
  induction m with
  | zero =>
   intro i h0 hm
   rw [List.drop_eq_nil_of_le (by omega)]
   exact Ev.step (f := fun _ => some true) (fun k => by simp only [spec_leJoins.l0]; rw [if_neg (by omega)]) (Ev.now _)
  | succ m ih =>
   intro i h0 hm
   have hi : i.toNat < l.length := by omega
   have hd : l.drop i.toNat = rd_L4 l i :: l.drop (i + 1).toNat := by
    rw [List.drop_eq_getElem_cons hi, show (i + 1).toNat = i.toNat + 1 by omega]
    congr 1
    unfold rd_L4
    rw [getD_eq [] hi]
   rw [hd, List.any_cons]
   have hx := hy i h0 (by omega)
   generalize hX : rd_L4 l i = x at hx
   by_cases c2 : (x.length : Int) = 2
   ·refine Ev.step (f := fun k => (spec_l1All.f k x 0 (wrap64 ((n : Int) - 1))).bind fun t148 => (if t148 = true then (if rd x 0 = rd x 1 then (some false) else (spec_leJoins.l0 k (n : Int) l (l.length : Int) (i + 1))) else (some false))) (fun k => ?_) ?_
    ·simp only [spec_leJoins.l0]
     rw [if_pos (by omega), if_pos h0, if_pos (by omega), hX, if_pos c2]
     simp only [if_pos (show 0 < (x.length : Int) by omega), if_pos (show 1 < (x.length : Int) by omega)]
     rw [w64 (x := i + 1) (by omega) (by omega)]
    ·refine Ev.bind (l1All_ev x 0 (wrap64 ((n : Int) - 1)) hx) ?_
     have e : (!(x.any fun z => !(decide (0 ≤ z) && decide (z ≤ wrap64 ((n : Int) - 1))))) = allIn x 0 (wrap64 ((n : Int) - 1)) := by
      have := areWithin_val x 0 (wrap64 ((n : Int) - 1))
      unfold impl_areWithin.f at this
      exact Option.some.inj this
     have hb : joinBad n x = (if allIn x 0 (wrap64 ((n : Int) - 1)) = true then (rd x 0 == rd x 1) else true) := by
      unfold joinBad
      rw [if_pos (by omega), e]
     rw [hb]
     cases hA : allIn x 0 (wrap64 ((n : Int) - 1)) with
     | false =>
      rw [if_neg (by decide), Bool.true_or, Bool.not_true]
      exact Ev.ifF (by decide) (Ev.now _)
     | true =>
      rw [if_pos rfl]
      refine Ev.ifT rfl ?_
      by_cases e3 : rd x 0 = rd x 1
      ·rw [show (rd x 0 == rd x 1) = true by simpa using e3, Bool.true_or, Bool.not_true]
       exact Ev.ifT e3 (Ev.now _)
      ·rw [show (rd x 0 == rd x 1) = false by simpa using e3, Bool.false_or]
       exact Ev.ifF e3 (ih (i + 1) (by omega) (by omega))
   ·have hb : joinBad n x = true := by
     unfold joinBad
     rw [if_neg (by omega)]
    rw [hb, Bool.true_or, Bool.not_true]
    refine Ev.step (f := fun _ => some false) (fun k => ?_) (Ev.now _)
    simp only [spec_leJoins.l0]
    rw [if_pos (by omega), if_pos h0, if_pos (by omega), hX, if_neg c2]
 unfold spec_leJoins.f
 by_cases c : (l.length : Int) ≤ 15
 ·rw [decide_eq_true c, Bool.true_and]
  exact Ev.ifF (by omega) (key l.length 0 (by omega) (by omega))
 ·rw [decide_eq_false c, Bool.false_and]
  exact Ev.ifT (by omega) (Ev.now _)
/-! names of groups: a state gives each index a name; a join makes both ends' names the less of them -/
def gStep (a : Nat → Nat) (j : Nat × Nat) : Nat → Nat := fun k => if k = j.1 ∨ k = j.2 then min (a j.1) (a j.2) else a k
def gPass (js : List (Nat × Nat)) (a : Nat → Nat) : Nat → Nat := js.foldl gStep a
def gIter (js : List (Nat × Nat)) : Nat → (Nat → Nat) → (Nat → Nat)
 | 0, a => a
 | m + 1, a => gIter js m (gPass js a)
theorem gStep_le (a : Nat → Nat) (j : Nat × Nat) (k : Nat) : gStep a j k ≤ a k := by
 unfold gStep
 split
 ·next h =>
  rcases h with rfl | rfl
  ·exact Nat.min_le_left _ _
  ·exact Nat.min_le_right _ _
 ·exact Nat.le_refl _
theorem gPass_cons (j : Nat × Nat) (js : List (Nat × Nat)) (a : Nat → Nat) : gPass (j :: js) a = gPass js (gStep a j) := rfl
theorem gPass_le (js : List (Nat × Nat)) (a : Nat → Nat) (k : Nat) : gPass js a k ≤ a k := by
 induction js generalizing a with
 | nil => exact Nat.le_refl _
 | cons j js ih => rw [gPass_cons]; exact Nat.le_trans (ih _) (gStep_le a j k)
theorem gIter_le (js : List (Nat × Nat)) (m : Nat) (a : Nat → Nat) (k : Nat) : gIter js m a k ≤ a k := by
 induction m generalizing a with
 | zero => exact Nat.le_refl _
 | succ m ih => exact Nat.le_trans (ih _) (gPass_le js a k)
theorem gIter_add (js : List (Nat × Nat)) (m k : Nat) (a : Nat → Nat) : gIter js (m + k) a = gIter js k (gIter js m a) := by
 induction m generalizing a with
 | zero => rw [Nat.zero_add]; rfl
 | succ m ih => rw [Nat.succ_add]; exact ih _
theorem gIter_fix (js : List (Nat × Nat)) (m : Nat) (a : Nat → Nat) (h : gPass js a = a) : gIter js m a = a := by
 induction m with
 | zero => rfl
 | succ m ih => show gIter js m (gPass js a) = a; rw [h]; exact ih
/-- what does not change in a pass changes at no join -/
theorem gPass_fix (js : List (Nat × Nat)) (a : Nat → Nat) (h : gPass js a = a) : ∀ j ∈ js, a j.1 = a j.2 := by
 induction js generalizing a with
 | nil => intro j hj; cases hj
 | cons j js ih =>
  rw [gPass_cons] at h
  have e : gStep a j = a := by
   funext k
   have h1 := gPass_le js (gStep a j) k
   rw [h] at h1
   exact Nat.le_antisymm (gStep_le a j k) h1
  rw [e] at h
  intro j' hj'
  rcases List.mem_cons.1 hj' with rfl | hm
  ·have e1 := congrFun e j'.1
   have e2 := congrFun e j'.2
   unfold gStep at e1 e2
   rw [if_pos (Or.inl rfl)] at e1
   rw [if_pos (Or.inr rfl)] at e2
   exact e1.symm.trans e2
  ·exact ih a h j' hm
/-- f is one name a join: then the names' f stays -/
def gOne (js : List (Nat × Nat)) (f : Nat → Nat) : Prop := ∀ j ∈ js, f j.1 = f j.2
theorem gStep_ind {f : Nat → Nat} {j : Nat × Nat} (hj : f j.1 = f j.2) {a : Nat → Nat} (h : ∀ k, f (a k) = f k) : ∀ k, f (gStep a j k) = f k := by
 intro k
 unfold gStep
 split
 ·next hk =>
  have hm : f (min (a j.1) (a j.2)) = f j.1 := by
   rcases Nat.le_total (a j.1) (a j.2) with hl | hl
   ·rw [Nat.min_eq_left hl, h]
   ·rw [Nat.min_eq_right hl, h, hj]
  rw [hm]
  rcases hk with rfl | rfl
  ·rfl
  ·exact hj
 ·exact h k
theorem gPass_ind {js : List (Nat × Nat)} {f : Nat → Nat} (hf : gOne js f) {a : Nat → Nat} (h : ∀ k, f (a k) = f k) : ∀ k, f (gPass js a k) = f k := by
 induction js generalizing a with
 | nil => exact h
 | cons j js ih => rw [gPass_cons]; exact ih (fun j' h' => hf j' (List.mem_cons_of_mem _ h')) (gStep_ind (hf j List.mem_cons_self) h)
theorem gIter_ind {js : List (Nat × Nat)} {f : Nat → Nat} (hf : gOne js f) (m : Nat) {a : Nat → Nat} (h : ∀ k, f (a k) = f k) : ∀ k, f (gIter js m a k) = f k := by
 induction m generalizing a with
 | zero => exact h
 | succ m ih => exact ih (gPass_ind hf h)
/-- f is below a state, at each index: then below its passes -/
theorem gStep_low {f : Nat → Nat} {j : Nat × Nat} (hj : f j.1 = f j.2) {a : Nat → Nat} (h : ∀ k, f k ≤ a k) : ∀ k, f k ≤ gStep a j k := by
 intro k
 unfold gStep
 split
 ·next hk =>
  have h1 := h j.1
  have h2 := h j.2
  rcases hk with rfl | rfl <;> omega
 ·exact h k
theorem gPass_low {js : List (Nat × Nat)} {f : Nat → Nat} (hf : gOne js f) {a : Nat → Nat} (h : ∀ k, f k ≤ a k) : ∀ k, f k ≤ gPass js a k := by
 induction js generalizing a with
 | nil => exact h
 | cons j js ih => rw [gPass_cons]; exact ih (fun j' h' => hf j' (List.mem_cons_of_mem _ h')) (gStep_low (hf j List.mem_cons_self) h)
theorem gIter_low {js : List (Nat × Nat)} {f : Nat → Nat} (hf : gOne js f) (m : Nat) {a : Nat → Nat} (h : ∀ k, f k ≤ a k) : ∀ k, f k ≤ gIter js m a k := by
 induction m generalizing a with
 | zero => exact h
 | succ m ih => exact ih (gPass_low hf h)
/-- a set of indices that no join leaves, apart from which no index has its last name: so it stays -/
theorem gStep_shut {f : Nat → Nat} {C : Nat → Prop} {j : Nat × Nat} (hj : f j.1 = f j.2) (hC : C j.1 ↔ C j.2) {a : Nat → Nat} (h : ∀ k, ¬ C k → f k < a k) : ∀ k, ¬ C k → f k < gStep a j k := by
 intro k hk
 unfold gStep
 split
 ·next hkj =>
  rcases hkj with rfl | rfl
  ·have h1 := h _ hk
   have h2 := h _ (fun c => hk (hC.2 c))
   omega
  ·have h1 := h _ hk
   have h2 := h _ (fun c => hk (hC.1 c))
   omega
 ·exact h k hk
theorem gPass_shut {js : List (Nat × Nat)} {f : Nat → Nat} {C : Nat → Prop} (hf : gOne js f) (hC : ∀ j ∈ js, (C j.1 ↔ C j.2)) {a : Nat → Nat} (h : ∀ k, ¬ C k → f k < a k) : ∀ k, ¬ C k → f k < gPass js a k := by
 induction js generalizing a with
 | nil => exact h
 | cons j js ih => rw [gPass_cons]; exact ih (fun j' h' => hf j' (List.mem_cons_of_mem _ h')) (fun j' h' => hC j' (List.mem_cons_of_mem _ h')) (gStep_shut (hf j List.mem_cons_self) (hC j List.mem_cons_self) h)
theorem gIter_shut {js : List (Nat × Nat)} {f : Nat → Nat} {C : Nat → Prop} (hf : gOne js f) (hC : ∀ j ∈ js, (C j.1 ↔ C j.2)) (m : Nat) {a : Nat → Nat} (h : ∀ k, ¬ C k → f k < a k) : ∀ k, ¬ C k → f k < gIter js m a k := by
 induction m generalizing a with
 | zero => exact h
 | succ m ih => exact ih (gPass_shut hf hC h)
/-- a pass that gives no index its last name: no join leaves the set of those that have it -/
theorem gPass_idle {js : List (Nat × Nat)} {f : Nat → Nat} (hf : gOne js f) {a : Nat → Nat} (h : ∀ k, f k ≤ a k) (hi : ∀ k, gPass js a k = f k → a k = f k) : ∀ j ∈ js, (a j.1 = f j.1 ↔ a j.2 = f j.2) := by
 induction js generalizing a with
 | nil => intro j hj; cases hj
 | cons j js ih =>
  have hfj := hf j List.mem_cons_self
  have hf' : gOne js f := fun j' h' => hf j' (List.mem_cons_of_mem _ h')
  have hl := gStep_low hfj h
  -- what has its last name behind the step has it behind the pass
  have hs : ∀ k, gStep a j k = f k → a k = f k := by
   intro k hk
   apply hi k
   rw [gPass_cons]
   have h1 := gPass_le js (gStep a j) k
   have h2 := gPass_low hf' hl k
   omega
  have hsame : ∀ k, gStep a j k = f k ↔ a k = f k := by
   intro k
   refine ⟨hs k, fun he => ?_⟩
   have h1 := gStep_le a j k
   have h2 := hl k
   omega
  have hfst : a j.1 = f j.1 ↔ a j.2 = f j.2 := by
   have m1 : gStep a j j.1 = min (a j.1) (a j.2) := by unfold gStep; rw [if_pos (Or.inl rfl)]
   have m2 : gStep a j j.2 = min (a j.1) (a j.2) := by unfold gStep; rw [if_pos (Or.inr rfl)]
   have l1 := h j.1
   have l2 := h j.2
   constructor
   ·intro e
    refine hs _ ?_
    rw [m2]; omega
   ·intro e
    refine hs _ ?_
    rw [m1]; omega
  have ih' := ih hf' hl (fun k hk => (hsame k).2 (hi k (by rw [gPass_cons]; exact hk)))
  intro j' hj'
  rcases List.mem_cons.1 hj' with rfl | hm
  ·exact hfst
  ·have := ih' j' hm
   rw [hsame, hsame] at this
   exact this
/-- how many indices below n have a property -/
def gCount (p : Nat → Bool) : Nat → Nat
 | 0 => 0
 | n + 1 => gCount p n + if p n then 1 else 0
theorem gCount_le (p : Nat → Bool) (n : Nat) : gCount p n ≤ n := by
 induction n with
 | zero => exact Nat.le_refl _
 | succ n ih => unfold gCount; split <;> omega
theorem gCount_full {p : Nat → Bool} {n : Nat} (h : n ≤ gCount p n) : ∀ k, k < n → p k = true := by
 induction n with
 | zero => intro k hk; omega
 | succ n ih =>
  unfold gCount at h
  have hl := gCount_le p n
  intro k hk
  cases hp : p n with
  | false => rw [hp] at h; simp at h; omega
  | true =>
   rw [hp] at h
   by_cases e : k = n
   ·rw [e]; exact hp
   ·exact ih (by simpa using h) k (by omega)
theorem gCount_mono {p q : Nat → Bool} {n : Nat} (h : ∀ k, k < n → p k = true → q k = true) : gCount p n ≤ gCount q n := by
 induction n with
 | zero => exact Nat.le_refl _
 | succ n ih =>
  have i := ih (fun k hk => h k (by omega))
  unfold gCount
  cases hp : p n with
  | false => simp; omega
  | true => rw [h n (by omega) hp]; simp; omega
theorem gCount_more {p q : Nat → Bool} {n k0 : Nat} (h : ∀ k, k < n → p k = true → q k = true) (hk : k0 < n) (h0 : p k0 = false) (h1 : q k0 = true) : gCount p n < gCount q n := by
 induction n with
 | zero => omega
 | succ n ih =>
  unfold gCount
  by_cases e : k0 = n
  ·have i := gCount_mono (n := n) (fun k hk => h k (by omega))
   subst e
   rw [h0, h1]; simp; omega
  ·have i := ih (fun k hk => h k (by omega)) (by omega)
   cases hp : p n with
   | false => simp; omega
   | true => rw [h n (by omega) hp]; simp; omega
theorem gCount_one {p : Nat → Bool} {n : Nat} (hn : 0 < n) (h : p 0 = true) : 1 ≤ gCount p n := by
 induction n with
 | zero => omega
 | succ n ih =>
  unfold gCount
  by_cases e : n = 0
  ·subst e; rw [h]; simp
  ·have := ih (by omega); omega
/-- so many passes as there are indices end where any number of passes ends behind which nothing changes -/
theorem gIter_end {js : List (Nat × Nat)} {n M : Nat} (hjs : ∀ j ∈ js, j.1 < n ∧ j.2 < n) (hfix : gPass js (gIter js M id) = gIter js M id) : gIter js n id = gIter js M id := by
 have hf : gOne js (gIter js M id) := gPass_fix js _ hfix
 generalize hF : gIter js M id = f at hf hfix
 have low : ∀ m k, f k ≤ gIter js m id k := fun m => gIter_low hf m (fun k => by rw [← hF]; exact gIter_le js M id k)
 have out : ∀ m k, n ≤ k → gIter js m id k = k := by
  have ps : ∀ (js : List (Nat × Nat)) (a : Nat → Nat) (k : Nat), (∀ j ∈ js, j.1 < n ∧ j.2 < n) → n ≤ k → gPass js a k = a k := by
   intro js
   induction js with
   | nil => intro a k _ _; rfl
   | cons j js ih =>
    intro a k h hk
    rw [gPass_cons, ih _ _ (fun j' h' => h j' (List.mem_cons_of_mem _ h')) hk]
    have := h j List.mem_cons_self
    unfold gStep
    rw [if_neg (by omega)]
  intro m
  have gen : ∀ m (a : Nat → Nat) k, n ≤ k → gIter js m a k = a k := by
   intro m
   induction m with
   | zero => intro a k _; rfl
   | succ m ih => intro a k hk; show gIter js m (gPass js a) k = a k; rw [ih _ _ hk, ps js a k hjs hk]
  intro k hk
  exact gen m id k hk
 have step : ∀ m, gIter js (m + 1) id = gPass js (gIter js m id) := fun m => by rw [gIter_add js m 1 id]; rfl
 have grow : ∀ m, min n (m + 1) ≤ gCount (fun k => decide (gIter js m id k = f k)) n := by
  intro m
  induction m with
  | zero =>
   by_cases hn : n = 0
   ·subst hn; simp [gCount]
   ·have := gCount_one (p := fun k => decide (gIter js 0 id k = f k)) (n := n) (by omega) (by
     have := low 0 0
     show decide (gIter js 0 id 0 = f 0) = true
     have e : gIter js 0 id 0 = 0 := rfl
     rw [e] at this ⊢
     exact decide_eq_true (by omega))
    omega
  | succ m ih =>
   have mono : ∀ k, k < n → decide (gIter js m id k = f k) = true → decide (gIter js (m + 1) id k = f k) = true := by
    intro k _ hk
    have hk := of_decide_eq_true hk
    have h1 := gPass_le js (gIter js m id) k
    have h2 := low (m + 1) k
    rw [step] at h2 ⊢
    exact decide_eq_true (by omega)
   by_cases hx : ∃ k, gIter js (m + 1) id k = f k ∧ gIter js m id k ≠ f k
   ·obtain ⟨k0, h1, h2⟩ := hx
    have hk : k0 < n := by
     by_cases h : k0 < n
     ·exact h
     ·have e1 := out (m + 1) k0 (by omega)
      have e2 := out m k0 (by omega)
      exact absurd (by rw [e2, ← h1, e1]) h2
    have := gCount_more mono hk (decide_eq_false h2) (decide_eq_true h1)
    omega
   ·-- nothing new: so all have it
    have idle := gPass_idle hf (low m) (fun k hk => by
     by_cases h : gIter js m id k = f k
     ·exact h
     ·exact absurd ⟨k, by rw [step]; exact hk, h⟩ hx)
    have all : ∀ k, gIter js m id k = f k := by
     intro k
     by_cases h : gIter js m id k = f k
     ·exact h
     ·exfalso
      have shut := gIter_shut (C := fun k => gIter js m id k = f k) hf idle M (a := gIter js m id) (fun k hk => Nat.lt_of_le_of_ne (low m k) (fun e => hk e.symm)) k h
      rw [← gIter_add, Nat.add_comm, gIter_add, hF, gIter_fix js m f hfix] at shut
      exact Nat.lt_irrefl _ shut
    have full : gCount (fun k => decide (gIter js (m + 1) id k = f k)) n = n := by
     have hall : ∀ k, gIter js (m + 1) id k = f k := by
      intro k
      rw [step, show gIter js m id = f from funext all, hfix]
     have : (fun k => decide (gIter js (m + 1) id k = f k)) = fun _ => true := by
      funext k; exact decide_eq_true (hall k)
     rw [this]
     clear this hall
     have : ∀ n, gCount (fun _ => true) n = n := by
      intro n
      induction n with
      | zero => rfl
      | succ n ih => unfold gCount; rw [ih]; simp
     exact this n
    omega
 funext k
 by_cases hk : k < n
 ·exact of_decide_eq_true (gCount_full (p := fun k => decide (gIter js n id k = f k)) (n := n) (by have := grow n; omega) k hk)
 ·rw [out n k (by omega), ← hF, out M k (by omega)]
/-- the names at the end: a name is one of its own group's indices, and its own name -/
theorem gEnd_self {js : List (Nat × Nat)} {M : Nat} (hfix : gPass js (gIter js M id) = gIter js M id) (k : Nat) : gIter js M id (gIter js M id k) = gIter js M id k :=
 gIter_ind (gPass_fix js _ hfix) M (a := id) (fun _ => rfl) k
/-- the names as a row -/
def names (n : Nat) (a : Nat → Nat) : List Int := (List.range n).map fun k => ((a k : Nat) : Int)
theorem names_len (n : Nat) (a : Nat → Nat) : (names n a).length = n := by simp [names]
theorem names_get (n : Nat) (a : Nat → Nat) (k : Nat) : (names n a)[k]? = if k < n then some ((a k : Nat) : Int) else none := by
 unfold names
 rw [List.getElem?_map]
 by_cases h : k < n
 ·rw [if_pos h, List.getElem?_eq_getElem (by simpa using h)]
  simp
 ·rw [if_neg h, List.getElem?_eq_none (by simp; omega)]
  rfl
theorem names_rd {n : Nat} (a : Nat → Nat) {i : Int} (h0 : 0 ≤ i) (h1 : i < (n : Int)) : rd (names n a) i = ((a i.toNat : Nat) : Int) := by
 unfold rd
 rw [List.getD_eq_getElem?_getD, names_get, if_pos (by omega)]
 rfl
theorem names_set {n : Nat} (a b : Nat → Nat) (k : Nat) (x : Nat) (h : ∀ i, i < n → b i = if i = k then x else a i) : (names n a).set k ((x : Nat) : Int) = names n b := by
 apply List.ext_getElem?
 intro i
 rw [List.getElem?_set, names_get, names_get, names_len]
 by_cases e : k = i
 ·subst e
  rw [if_pos rfl]
  by_cases hk : k < n
  ·rw [if_pos hk, if_pos hk, h k hk, if_pos rfl]
  ·rw [if_neg hk, if_neg hk]
 ·rw [if_neg e]
  by_cases hi : i < n
  ·rw [if_pos hi, if_pos hi, h i hi, if_neg (fun e' => e e'.symm)]
  ·rw [if_neg hi, if_neg hi]
theorem names_step {n : Nat} (a : Nat → Nat) (u v : Nat) : ((names n a).set u ((min (a u) (a v) : Nat) : Int)).set v ((min (a u) (a v) : Nat) : Int) = names n (gStep a (u, v)) := by
 rw [names_set a (fun k => if k = u then min (a u) (a v) else a k) u _ (fun i _ => rfl)]
 refine names_set _ _ v _ (fun i _ => ?_)
 unfold gStep
 dsimp only
 by_cases e1 : i = v
 ·rw [if_pos e1, if_pos (Or.inr e1)]
 ·rw [if_neg e1]
  by_cases e2 : i = u
  ·rw [if_pos e2, if_pos (Or.inl e2)]
  ·rw [if_neg e2, if_neg (fun h => h.elim e2 e1)]
/-- the sum of the names: each pass that changes one makes it less -/
def gSum (a : Nat → Nat) : Nat → Nat
 | 0 => 0
 | n + 1 => gSum a n + a n
theorem gSum_le {a b : Nat → Nat} (h : ∀ k, a k ≤ b k) (n : Nat) : gSum a n ≤ gSum b n := by
 induction n with
 | zero => exact Nat.le_refl _
 | succ n ih => have := h n; simp only [gSum]; omega
theorem gSum_lt {a b : Nat → Nat} (h : ∀ k, a k ≤ b k) {n k0 : Nat} (hk : k0 < n) (h0 : a k0 < b k0) : gSum a n < gSum b n := by
 induction n with
 | zero => omega
 | succ n ih =>
  have h1 := h n
  have h2 := gSum_le h n
  simp only [gSum]
  by_cases e : k0 = n
  ·subst e; omega
  ·have := ih (by omega); omega
/-- one group -/
def grp (n : Nat) (a : Nat → Nat) (i : Nat) : List Int := ((List.range n).filter fun k => a k == i).map fun k => ((k : Nat) : Int)
/-- the groups, as the program and as the reference gather them -/
def grpsP (n : Nat) (a : Nat → Nat) : List (List Int) := ((List.range n).filter fun i => !(grp n a i).isEmpty).map (grp n a)
def grpsR (n : Nat) (a : Nat → Nat) : List (List Int) := ((List.range n).filter fun i => a i == i).map (grp n a)
theorem grp_mem {n : Nat} {a : Nat → Nat} {i k : Nat} (hk : k < n) (h : a k = i) : ((k : Nat) : Int) ∈ grp n a i := by
 unfold grp
 exact List.mem_map.2 ⟨k, List.mem_filter.2 ⟨List.mem_range.2 hk, by simpa using h⟩, rfl⟩
theorem grps_eq {n : Nat} {a : Nat → Nat} (h : ∀ k, a (a k) = a k) : grpsP n a = grpsR n a := by
 unfold grpsP grpsR
 congr 1
 apply List.filter_congr
 intro i hi
 have hi := List.mem_range.1 hi
 by_cases e : a i = i
 ·have hm := grp_mem hi e
  rw [beq_iff_eq.2 e]
  cases hg : grp n a i with
  | nil => rw [hg] at hm; cases hm
  | cons x xs => rfl
 ·rw [beq_eq_false_iff_ne.2 e]
  cases hg : grp n a i with
  | nil => rfl
  | cons x xs =>
   exfalso
   have hx : x ∈ grp n a i := by rw [hg]; exact List.mem_cons_self
   unfold grp at hx
   obtain ⟨k, hk, rfl⟩ := List.mem_map.1 hx
   have hk := (List.mem_filter.1 hk).2
   have hk : a k = i := by simpa using hk
   exact e (by rw [← hk]; exact h k)
theorem grp_lt {n : Nat} {a : Nat → Nat} {i : Nat} {x : Int} (h : x ∈ grp n a i) : 0 ≤ x ∧ x < (n : Int) := by
 unfold grp at h
 obtain ⟨k, hk, rfl⟩ := List.mem_map.1 h
 have := List.mem_range.1 (List.mem_filter.1 hk).1
 omega
theorem grp_len (n : Nat) (a : Nat → Nat) (i : Nat) : (grp n a i).length ≤ n := by
 unfold grp
 rw [List.length_map]
 exact Nat.le_trans (List.length_filter_le _ _) (by simp)
theorem grpsP_mem {n : Nat} {a : Nat → Nat} {g : List Int} (h : g ∈ grpsP n a) : g ≠ [] ∧ g.length ≤ n ∧ ∀ x ∈ g, 0 ≤ x ∧ x < (n : Int) := by
 unfold grpsP at h
 obtain ⟨i, hi, rfl⟩ := List.mem_map.1 h
 have hi := (List.mem_filter.1 hi).2
 refine ⟨fun e => ?_, grp_len _ _ _, fun x hx => grp_lt hx⟩
 rw [e] at hi
 simp at hi
theorem grpsP_len (n : Nat) (a : Nat → Nat) : (grpsP n a).length ≤ n := by
 unfold grpsP
 rw [List.length_map]
 exact Nat.le_trans (List.length_filter_le _ _) (by simp)
/-- the joins as pairs -/
def jPairs (l : List (List Int)) : List (Nat × Nat) := l.map fun j => ((rd j 0).toNat, (rd j 1).toNat)
/-- a join of n tanks -/
def jOk (n : Nat) (j : List Int) : Prop := j.length = 2 ∧ (0 ≤ rd j 0 ∧ rd j 0 < (n : Int)) ∧ (0 ≤ rd j 1 ∧ rd j 1 < (n : Int)) ∧ rd j 0 ≠ rd j 1
theorem rows_at3 (pre : List (List Int)) (x : List Int) (rest : List (List Int)) : rd_L4 (pre ++ x :: rest) (pre.length : Int) = x := by
 unfold rd_L4
 rw [Int.toNat_natCast, List.getD_eq_getElem?_getD, List.getElem?_append_right (Nat.le_refl _), Nat.sub_self]
 rfl
theorem names_snoc (n : Nat) (a : Nat → Nat) : names (n + 1) a = names n a ++ [((a n : Nat) : Int)] := by
 unfold names
 rw [List.range_succ, List.map_append]
 rfl
/-! the program -/
theorem impl_pass {x0 : List S63} {J : List (List Int)} {n : Nat} {t : Int} {r : List (List Int) × Bool} (hJ : J.length ≤ 1048576) : ∀ (rest pre : List (List Int)) (a : Nat → Nat), J = pre ++ rest → (∀ j ∈ rest, jOk n j) →
  Ev (fun k => impl_GroupsOf.l1 k x0 J (names n (gPass (jPairs rest) a)) (n : Int) (wrap64 (t + 1))) r → Ev (fun k => impl_GroupsOf.l2 k x0 J (names n a) (n : Int) t J (J.length : Int) (pre.length : Int)) r
 | [], pre, a, hJ2, _, h => by
  refine Ev.step (fun k => ?_) h
  simp only [impl_GroupsOf.l2]
  rw [if_neg (by rw [hJ2]; simp)]
  rfl
 | j :: rest, pre, a, hJ2, hj, h => by
  obtain ⟨h2, ⟨p0, p1⟩, ⟨q0, q1⟩, hne⟩ := hj j List.mem_cons_self
  have hl : J.length = pre.length + (rest.length + 1) := by rw [hJ2, List.length_append, List.length_cons]
  have ha : rd_L4 J (pre.length : Int) = j := by rw [hJ2]; exact rows_at3 _ _ _
  have ih := impl_pass hJ rest (pre ++ [j]) (gStep a ((rd j 0).toNat, (rd j 1).toNat)) (by rw [hJ2, List.append_assoc]; rfl) (fun j' h' => hj j' (List.mem_cons_of_mem _ h')) h
  refine Ev.step (fun k => ?_) ih
  simp only [impl_GroupsOf.l2]
  rw [if_pos (by omega), if_pos (by omega), if_pos (by omega), ha, h2, if_pos (by omega), if_pos p0, if_pos (by rw [names_len]; exact p1), if_pos (by omega), if_pos q0, if_pos (by rw [names_len]; exact q1), w64 (x := (pre.length : Int) + 1) (by omega) (by omega), names_rd a p0 p1, names_rd a q0 q1]
  rw [List.length_append, List.length_singleton]
  have hm : mn ((a (rd j 0).toNat : Nat) : Int) ((a (rd j 1).toNat : Nat) : Int) = ((min (a (rd j 0).toNat) (a (rd j 1).toNat) : Nat) : Int) := by unfold mn; split <;> omega
  rw [hm, names_step]
  rfl
theorem impl_passes {x0 : List S63} {J : List (List Int)} {n : Nat} {r : List (List Int) × Bool} (hn : n ≤ 1048576) (hx : x0.length = n) (hJ : J.length ≤ 1048576) (hj : ∀ j ∈ J, jOk n j) : ∀ (m : Nat) (t : Int) (a : Nat → Nat), 0 ≤ t → (n : Int) - t = m →
  Ev (fun k => impl_GroupsOf.l3 k (names n (gIter (jPairs J) m a)) [] (n : Int) 0) r → Ev (fun k => impl_GroupsOf.l1 k x0 J (names n a) (n : Int) t) r
 | 0, t, a, h0, hm, h => by
  refine Ev.step (fun k => ?_) h
  simp only [impl_GroupsOf.l1]
  rw [if_neg (by omega), hx]
  rfl
 | m + 1, t, a, h0, hm, h => by
  refine Ev.step (f := fun k => impl_GroupsOf.l2 k x0 J (names n a) (n : Int) t J (J.length : Int) 0) (fun k => ?_) ?_
  ·simp only [impl_GroupsOf.l1]
   rw [if_pos (by omega)]
  ·refine impl_pass hJ J [] a rfl hj ?_
   rw [w64 (x := t + 1) (by omega) (by omega)]
   exact impl_passes hn hx hJ hj m (t + 1) _ (by omega) (by omega) h
theorem impl_init {x0 : List S63} {J : List (List Int)} {n : Nat} {r : List (List Int) × Bool} (hn : n ≤ 1048576) (hx : x0.length = n) : ∀ (m i : Nat), n - i = m → i ≤ n →
  Ev (fun k => impl_GroupsOf.l1 k x0 J (names n id) (n : Int) 0) r → Ev (fun k => impl_GroupsOf.l0 k x0 J (names i id) (n : Int) (i : Int)) r
 | 0, i, hm, hi, h => by
  obtain rfl : i = n := by omega
  refine Ev.step (fun k => ?_) h
  simp only [impl_GroupsOf.l0]
  rw [if_neg (by omega), hx]
 | m + 1, i, hm, hi, h => by
  refine Ev.step (fun k => ?_) (impl_init hn hx m (i + 1) (by omega) (by omega) h)
  simp only [impl_GroupsOf.l0]
  rw [if_pos (by omega), if_pos (by rw [names_len]; omega), w64 (x := (i : Int) + 1) (by omega) (by omega), names_snoc]
  rfl
/-- a group as far as it is gathered -/
def grpTo (a : Nat → Nat) (i j : Nat) : List Int := ((List.range j).filter fun k => a k == i).map fun k => ((k : Nat) : Int)
theorem grpTo_succ (a : Nat → Nat) (i j : Nat) : grpTo a i (j + 1) = if a j = i then grpTo a i j ++ [((j : Nat) : Int)] else grpTo a i j := by
 unfold grpTo
 rw [List.range_succ, List.filter_append, List.map_append]
 by_cases h : a j = i
 ·rw [if_pos h, List.filter_cons_of_pos (by simpa using h)]
  rfl
 ·rw [if_neg h, List.filter_cons_of_neg (by simpa using h)]
  simp
theorem grpTo_len (a : Nat → Nat) (i j : Nat) : (grpTo a i j).length ≤ j := by
 unfold grpTo
 rw [List.length_map]
 exact Nat.le_trans (List.length_filter_le _ _) (by simp)
theorem grpTo_all (n : Nat) (a : Nat → Nat) (i : Nat) : grpTo a i n = grp n a i := rfl
theorem impl_gather {out : List (List Int)} {n i : Nat} {a : Nat → Nat} {r : List (List Int) × Bool} (hn : n ≤ 1048576) (ho : out.length ≤ 1048576) (hi : i < n) : ∀ (m j : Nat), n - j = m → j ≤ n →
  Ev (fun k => impl_GroupsOf.l3 k (names n a) (if (grp n a i).isEmpty then out else out ++ [grp n a i]) (n : Int) ((i + 1 : Nat) : Int)) r → Ev (fun k => impl_GroupsOf.l4 k (names n a) out (i : Int) (grpTo a i j) (n : Int) (i : Int) (names n a) (n : Int) (j : Int)) r
 | 0, j, hm, hj, h => by
  obtain rfl : j = n := by omega
  refine Ev.step (fun k => ?_) h
  simp only [impl_GroupsOf.l4]
  rw [if_neg (by omega), grpTo_all, w64 (x := (i : Int) + 1) (by omega) (by omega)]
  cases hg : grp j a i with
  | nil => rw [if_neg (by simp)]; rfl
  | cons x xs => rw [if_pos (by rw [List.length_cons]; omega), if_pos (by omega)]; rfl
 | m + 1, j, hm, hj, h => by
  have ih := impl_gather hn ho hi m (j + 1) (by omega) (by omega) h
  refine Ev.step (fun k => ?_) ih
  simp only [impl_GroupsOf.l4]
  have hlen := grpTo_len a i j
  rw [if_pos (by omega), if_pos (by omega), if_pos (by rw [names_len]; omega), names_rd a (i := (j : Int)) (by omega) (by omega), Int.toNat_natCast, w64 (x := (j : Int) + 1) (by omega) (by omega), grpTo_succ]
  by_cases h1 : a j = i
  ·rw [if_pos (by omega), if_pos (by omega), if_pos h1]
   rfl
  ·rw [if_neg (by omega), if_neg h1]
   rfl
/-- the groups up to i -/
def outP (n : Nat) (a : Nat → Nat) (i : Nat) : List (List Int) := ((List.range i).filter fun i => !(grp n a i).isEmpty).map (grp n a)
theorem outP_succ (n : Nat) (a : Nat → Nat) (i : Nat) : outP n a (i + 1) = if (grp n a i).isEmpty then outP n a i else outP n a i ++ [grp n a i] := by
 unfold outP
 rw [List.range_succ, List.filter_append, List.map_append]
 cases h : (grp n a i).isEmpty with
 | true => rw [if_pos rfl, List.filter_cons_of_neg (by simp [h])]; simp
 | false => rw [if_neg (by decide), List.filter_cons_of_pos (by simp [h])]; rfl
theorem outP_len (n : Nat) (a : Nat → Nat) (i : Nat) : (outP n a i).length ≤ i := by
 unfold outP
 rw [List.length_map]
 exact Nat.le_trans (List.length_filter_le _ _) (by simp)
theorem impl_out {n : Nat} {a : Nat → Nat} (hn : n ≤ 1048576) : ∀ (m i : Nat), n - i = m → i ≤ n → Ev (fun k => impl_GroupsOf.l3 k (names n a) (outP n a i) (n : Int) (i : Int)) (grpsP n a, true)
 | 0, i, hm, hi => by
  obtain rfl : i = n := by omega
  refine Ev.step (f := fun _ => some (outP i a i, true)) (fun k => ?_) (Ev.now _)
  simp only [impl_GroupsOf.l3]
  rw [if_neg (by omega)]
 | m + 1, i, hm, hi => by
  have ih := impl_out (a := a) hn m (i + 1) (by omega) (by omega)
  rw [outP_succ] at ih
  have hl := outP_len n a i
  have g := impl_gather (out := outP n a i) (i := i) hn (by omega) (by omega) n 0 (by omega) (by omega) ih
  refine Ev.step (fun k => ?_) g
  simp only [impl_GroupsOf.l3]
  rw [if_pos (by omega), names_len]
  rfl
/-! the reference -/
theorem names_init {n i : Nat} (h : i < n) : (names n (fun k => if k < i then k else 0)).set i ((i : Nat) : Int) = names n (fun k => if k < i + 1 then k else 0) := by
 refine names_set _ _ i i (fun k hk => ?_)
 try dsimp only
 by_cases e : k = i
 ·subst e; rw [if_pos (by omega), if_pos rfl]
 ·rw [if_neg e]
  by_cases h2 : k < i
  ·rw [if_pos (by omega), if_pos h2]
  ·rw [if_neg (by omega), if_neg h2]
theorem spec_init {J : List (List Int)} {n : Nat} {r : List (List Int)} (hn : n ≤ 1048576) : ∀ (m i : Nat), n - i = m → i ≤ n →
  Ev (fun k => spec_leGroups.l1 k J (names n id) true) r → Ev (fun k => spec_leGroups.l0 k J (names n (fun k => if k < i then k else 0)) (n : Int) (i : Int)) r
 | 0, i, hm, hi, h => by
  obtain rfl : i = n := by omega
  refine Ev.step (fun k => ?_) h
  simp only [spec_leGroups.l0]
  rw [if_neg (by omega)]
  congr 1
  unfold names
  apply List.map_congr_left
  intro k hk
  have := List.mem_range.1 hk
  show (((if k < i then k else 0 : Nat)) : Int) = _
  rw [if_pos this]
  rfl
 | m + 1, i, hm, hi, h => by
  refine Ev.step (fun k => ?_) (spec_init hn m (i + 1) (by omega) (by omega) h)
  simp only [spec_leGroups.l0]
  rw [if_pos (by omega), if_pos (by omega), if_pos (by rw [names_len]; omega), w64 (x := (i : Int) + 1) (by omega) (by omega), Int.toNat_natCast, names_init (by omega)]
  rfl
def gFlag : List (Nat × Nat) → Bool → (Nat → Nat) → Bool
 | [], c, _ => c
 | j :: js, c, a => gFlag js (c || (decide (a j.1 > min (a j.1) (a j.2)) || decide (a j.2 > min (a j.1) (a j.2)))) (gStep a j)
theorem gStep_id {a : Nat → Nat} {j : Nat × Nat} (h1 : ¬ a j.1 > min (a j.1) (a j.2)) (h2 : ¬ a j.2 > min (a j.1) (a j.2)) : gStep a j = a := by
 funext k
 unfold gStep
 split
 ·next hk => rcases hk with rfl | rfl <;> omega
 ·rfl
theorem gFlag_no {n : Nat} : ∀ (js : List (Nat × Nat)) (c : Bool) (a : Nat → Nat), gFlag js c a = false → c = false ∧ gPass js a = a
 | [], c, a, h => ⟨h, rfl⟩
 | j :: js, c, a, h => by
  obtain ⟨h1, h2⟩ := gFlag_no (n := n) js _ _ h
  simp only [Bool.or_eq_false_iff, decide_eq_false_iff_not] at h1
  rw [gPass_cons]
  rw [gStep_id h1.2.1 h1.2.2] at h2 ⊢
  exact ⟨h1.1, h2⟩
theorem gFlag_yes {n : Nat} : ∀ (js : List (Nat × Nat)) (c : Bool) (a : Nat → Nat), (∀ j ∈ js, j.1 < n ∧ j.2 < n) → gFlag js c a = true → c = true ∨ gSum (gPass js a) n < gSum a n
 | [], c, a, _, h => .inl h
 | j :: js, c, a, hj, h => by
  have hb := hj j List.mem_cons_self
  rw [gPass_cons]
  have hle := gSum_le (gStep_le a j) n
  rcases gFlag_yes js _ _ (fun j' h' => hj j' (List.mem_cons_of_mem _ h')) h with h1 | h1
  ·simp only [Bool.or_eq_true, decide_eq_true_eq] at h1
   have hp := gSum_le (gPass_le js (gStep a j)) n
   rcases h1 with h1 | h1 | h1
   ·exact .inl h1
   ·have := gSum_lt (gStep_le a j) (k0 := j.1) hb.1 (by unfold gStep; rw [if_pos (Or.inl rfl)]; exact h1)
    exact .inr (by omega)
   ·have := gSum_lt (gStep_le a j) (k0 := j.2) hb.2 (by unfold gStep; rw [if_pos (Or.inr rfl)]; exact h1)
    exact .inr (by omega)
  ·exact .inr (by omega)
theorem least_val (x y : Nat) : spec_l1Least.f (x : Int) (y : Int) = some ((min x y : Nat) : Int) := by
 unfold spec_l1Least.f
 split <;> congr 1 <;> omega
theorem spec_two {J : List (List Int)} {n : Nat} {c : Bool} {i : Int} {r : List (List Int)} {j : List Int} {a : Nat → Nat} (hj : jOk n j) (h : Ev (fun k => spec_leGroups.l2 k J (names n (gStep a ((rd j 0).toNat, (rd j 1).toNat))) (c || (decide (a (rd j 0).toNat > min (a (rd j 0).toNat) (a (rd j 1).toNat)) || decide (a (rd j 1).toNat > min (a (rd j 0).toNat) (a (rd j 1).toNat)))) J (J.length : Int) (wrap64 (i + 1))) r) :
  Ev (fun k => spec_leGroups.l3 k J (names n a) c ((min (a (rd j 0).toNat) (a (rd j 1).toNat) : Nat) : Int) J (J.length : Int) i j 2 0) r := by
 obtain ⟨h2, ⟨p0, p1⟩, ⟨q0, q1⟩, hne⟩ := hj
 generalize hu : (rd j 0).toNat = u at h
 generalize hv : (rd j 1).toNat = v at h
 have hu0 : rd j 0 = (u : Int) := by omega
 have hv0 : rd j 1 = (v : Int) := by omega
 have huv : u ≠ v := by omega
 generalize hm : min (a u) (a v) = m at h
 -- behind the first end
 have e1 : (names n a).set u ((m : Nat) : Int) = names n (fun k => if k = u then m else a k) := names_set a _ u m (fun _ _ => rfl)
 have last : ∀ (b : Nat → Nat) (c' : Bool), (∀ k, k ≠ u → k ≠ v → b k = a k) → b u = m → b v = a v → c' = (c || decide (a u > m)) → Ev (fun k => spec_leGroups.l3 k J (names n b) c' ((m : Nat) : Int) J (J.length : Int) i j 2 1) r := by
  intro b c' hb hbu hbv hc
  have hend : ∀ (d : Nat → Nat) (c2 : Bool), (∀ k, k < n → d k = gStep a (u, v) k) → c2 = (c || (decide (a u > m) || decide (a v > m))) → Ev (fun k => spec_leGroups.l3 k J (names n d) c2 ((m : Nat) : Int) J (J.length : Int) i j 2 2) r := by
   intro d c2 hd hc2
   have : names n d = names n (gStep a (u, v)) := by
    unfold names
    apply List.map_congr_left
    intro k hk
    rw [hd k (List.mem_range.1 hk)]
   rw [this, hc2]
   refine Ev.step (fun k => ?_) h
   simp only [spec_leGroups.l3]
   rw [if_neg (by omega)]
  by_cases c1 : a v > m
  ·refine Ev.step (fun k => ?_) (hend (fun k => if k = v then m else b k) true (fun k hk => ?_) (by rw [decide_eq_true c1]; simp))
   ·simp only [spec_leGroups.l3]
    rw [if_pos (by omega), if_pos (by omega), if_pos (by omega), hv0, if_pos (by omega), if_pos (by rw [names_len]; omega), names_rd b (i := (v : Int)) (by omega) (by omega), Int.toNat_natCast, hbv, if_pos (by omega), names_set b (fun k => if k = v then m else b k) v m (fun _ _ => rfl), w64 (x := (1 : Int) + 1) (by omega) (by omega)]
    rfl
   ·unfold gStep
    dsimp only
    by_cases k1 : k = v
    ·rw [if_pos k1, if_pos (Or.inr k1), hm]
    ·rw [if_neg k1]
     by_cases k2 : k = u
     ·subst k2; rw [if_pos (Or.inl rfl), hbu, hm]
     ·rw [if_neg (fun h => h.elim k2 k1), hb k k2 k1]
  ·refine Ev.step (fun k => ?_) (hend b c' (fun k hk => ?_) (by rw [decide_eq_false c1, Bool.or_false]; exact hc))
   ·simp only [spec_leGroups.l3]
    rw [if_pos (by omega), if_pos (by omega), if_pos (by omega), hv0, if_pos (by omega), if_pos (by rw [names_len]; omega), names_rd b (i := (v : Int)) (by omega) (by omega), Int.toNat_natCast, hbv, if_neg (by omega), w64 (x := (1 : Int) + 1) (by omega) (by omega)]
    rfl
   ·unfold gStep
    dsimp only
    by_cases k1 : k = v
    ·subst k1; rw [if_pos (Or.inr rfl), hbv, hm]; omega
    ·by_cases k2 : k = u
     ·subst k2; rw [if_pos (Or.inl rfl), hbu, hm]
     ·rw [if_neg (fun h => h.elim k2 k1), hb k k2 k1]
 by_cases c1 : a u > m
 ·refine Ev.step (fun k => ?_) (last (fun k => if k = u then m else a k) true (fun k k1 k2 => if_neg k1) (if_pos rfl) (if_neg (fun e => huv e.symm)) (by rw [decide_eq_true c1]; simp))
  simp only [spec_leGroups.l3]
  rw [if_pos (by omega), if_pos (by omega), if_pos (by omega), hu0, if_pos (by omega), if_pos (by rw [names_len]; omega), names_rd a (i := (u : Int)) (by omega) (by omega), Int.toNat_natCast, if_pos (by omega), e1, w64 (x := (0 : Int) + 1) (by omega) (by omega)]
  rfl
 ·refine Ev.step (fun k => ?_) (last a c (fun k _ _ => rfl) (by omega) rfl (by rw [decide_eq_false c1, Bool.or_false]))
  simp only [spec_leGroups.l3]
  rw [if_pos (by omega), if_pos (by omega), if_pos (by omega), hu0, if_pos (by omega), if_pos (by rw [names_len]; omega), names_rd a (i := (u : Int)) (by omega) (by omega), Int.toNat_natCast, if_neg (by omega), w64 (x := (0 : Int) + 1) (by omega) (by omega)]
  rfl
theorem spec_pass {J : List (List Int)} {n : Nat} {r : List (List Int)} (hJ : J.length ≤ 1048576) : ∀ (rest pre : List (List Int)) (c : Bool) (a : Nat → Nat), J = pre ++ rest → (∀ j ∈ rest, jOk n j) →
  Ev (fun k => spec_leGroups.l1 k J (names n (gPass (jPairs rest) a)) (gFlag (jPairs rest) c a)) r → Ev (fun k => spec_leGroups.l2 k J (names n a) c J (J.length : Int) (pre.length : Int)) r
 | [], pre, c, a, hJ2, _, h => by
  refine Ev.step (fun k => ?_) h
  simp only [spec_leGroups.l2]
  rw [if_neg (by rw [hJ2]; simp)]
  rfl
 | j :: rest, pre, c, a, hJ2, hj, h => by
  have hjk := hj j List.mem_cons_self
  obtain ⟨h2, ⟨p0, p1⟩, ⟨q0, q1⟩, hne⟩ := hjk
  have hl : J.length = pre.length + (rest.length + 1) := by rw [hJ2, List.length_append, List.length_cons]
  have ha : rd_L4 J (pre.length : Int) = j := by rw [hJ2]; exact rows_at3 _ _ _
  have ih := spec_pass hJ rest (pre ++ [j]) _ (gStep a ((rd j 0).toNat, (rd j 1).toNat)) (by rw [hJ2, List.append_assoc]; rfl) (fun j' h' => hj j' (List.mem_cons_of_mem _ h')) h
  have ht := spec_two (J := J) (n := n) (c := c) (i := (pre.length : Int)) (a := a) (r := r) (hj j List.mem_cons_self) (by rw [w64 (x := (pre.length : Int) + 1) (by omega) (by omega)]; rw [List.length_append, List.length_singleton] at ih; exact ih)
  refine Ev.step (fun k => ?_) ht
  simp only [spec_leGroups.l2]
  rw [if_pos (by omega), if_pos (by omega), if_pos (by omega), ha, h2, if_pos (by omega), if_pos p0, if_pos (by rw [names_len]; exact p1), if_pos (by omega), if_pos q0, if_pos (by rw [names_len]; exact q1), names_rd a p0 p1, names_rd a q0 q1, least_val, Option.bind_some]
  rfl
theorem jPairs_lt {J : List (List Int)} {n : Nat} (h : ∀ j ∈ J, jOk n j) : ∀ j ∈ jPairs J, j.1 < n ∧ j.2 < n := by
 intro j hj
 obtain ⟨x, hx, rfl⟩ := List.mem_map.1 hj
 obtain ⟨_, ⟨p0, p1⟩, ⟨q0, q1⟩, _⟩ := h x hx
 dsimp only
 omega
theorem spec_passes {J : List (List Int)} {n : Nat} (hn : n ≤ 1048576) (hJ : J.length ≤ 1048576) (hj : ∀ j ∈ J, jOk n j) : ∀ (s : Nat) (a : Nat → Nat), gSum a n ≤ s →
  ∃ M, gPass (jPairs J) (gIter (jPairs J) M a) = gIter (jPairs J) M a ∧ ∀ r, Ev (fun k => spec_leGroups.l4 k (names n (gIter (jPairs J) M a)) [] (n : Int) 0) r → Ev (fun k => spec_leGroups.l1 k J (names n a) true) r := by
 intro s
 induction s with
 | zero =>
  intro a hs
  have hf : gFlag (jPairs J) false a = false := by
   cases h : gFlag (jPairs J) false a with
   | false => rfl
   | true =>
    rcases gFlag_yes (n := n) _ _ _ (jPairs_lt hj) h with h1 | h1
    ·cases h1
    ·omega
  obtain ⟨_, hp⟩ := gFlag_no (n := n) _ _ _ hf
  refine ⟨0, hp, fun r h => ?_⟩
  refine Ev.step (f := fun k => spec_leGroups.l2 k J (names n a) false J (J.length : Int) 0) (fun k => by simp only [spec_leGroups.l1, if_true]) ?_
  refine spec_pass hJ J [] false a rfl hj ?_
  rw [hf, hp]
  refine Ev.step (fun k => ?_) h
  simp only [spec_leGroups.l1, Bool.false_eq_true, if_false, names_len]
  rfl
 | succ s ih =>
  intro a hs
  cases hf : gFlag (jPairs J) false a with
  | false =>
   obtain ⟨_, hp⟩ := gFlag_no (n := n) _ _ _ hf
   refine ⟨0, hp, fun r h => ?_⟩
   refine Ev.step (f := fun k => spec_leGroups.l2 k J (names n a) false J (J.length : Int) 0) (fun k => by simp only [spec_leGroups.l1, if_true]) ?_
   refine spec_pass hJ J [] false a rfl hj ?_
   rw [hf, hp]
   refine Ev.step (fun k => ?_) h
   simp only [spec_leGroups.l1, Bool.false_eq_true, if_false, names_len]
   rfl
  | true =>
   rcases gFlag_yes (n := n) _ _ _ (jPairs_lt hj) hf with h1 | h1
   ·cases h1
   ·obtain ⟨M, m1, m2⟩ := ih (gPass (jPairs J) a) (by omega)
    refine ⟨M + 1, m1, fun r h => ?_⟩
    refine Ev.step (f := fun k => spec_leGroups.l2 k J (names n a) false J (J.length : Int) 0) (fun k => by simp only [spec_leGroups.l1, if_true]) ?_
    refine spec_pass hJ J [] false a rfl hj ?_
    rw [hf]
    exact m2 r h
theorem spec_gather {out : List (List Int)} {n i : Nat} {a : Nat → Nat} {r : List (List Int)} (hn : n ≤ 1048576) (ho : out.length ≤ 1048576) (hi : i < n) : ∀ (m j : Nat), n - j = m → j ≤ n →
  Ev (fun k => spec_leGroups.l4 k (names n a) (out ++ [grp n a i]) (n : Int) ((i + 1 : Nat) : Int)) r → Ev (fun k => spec_leGroups.l5 k (names n a) out (i : Int) (grpTo a i j) (n : Int) (i : Int) (names n a) (n : Int) (j : Int)) r
 | 0, j, hm, hj, h => by
  obtain rfl : j = n := by omega
  refine Ev.step (fun k => ?_) h
  simp only [spec_leGroups.l5]
  rw [if_neg (by omega), grpTo_all, w64 (x := (i : Int) + 1) (by omega) (by omega), if_pos (by omega)]
  rfl
 | m + 1, j, hm, hj, h => by
  have ih := spec_gather hn ho hi m (j + 1) (by omega) (by omega) h
  refine Ev.step (fun k => ?_) ih
  simp only [spec_leGroups.l5]
  have hlen := grpTo_len a i j
  rw [if_pos (by omega), if_pos (by omega), if_pos (by rw [names_len]; omega), names_rd a (i := (j : Int)) (by omega) (by omega), Int.toNat_natCast, w64 (x := (j : Int) + 1) (by omega) (by omega), grpTo_succ]
  by_cases h1 : a j = i
  ·rw [if_pos (by omega), if_pos (by omega), if_pos h1]
   rfl
  ·rw [if_neg (by omega), if_neg h1]
   rfl
def outR (n : Nat) (a : Nat → Nat) (i : Nat) : List (List Int) := ((List.range i).filter fun i => a i == i).map (grp n a)
theorem outR_succ (n : Nat) (a : Nat → Nat) (i : Nat) : outR n a (i + 1) = if a i = i then outR n a i ++ [grp n a i] else outR n a i := by
 unfold outR
 rw [List.range_succ, List.filter_append, List.map_append]
 by_cases h : a i = i
 ·rw [if_pos h, List.filter_cons_of_pos (by simpa using h)]; rfl
 ·rw [if_neg h, List.filter_cons_of_neg (by simpa using h)]; simp
theorem outR_len (n : Nat) (a : Nat → Nat) (i : Nat) : (outR n a i).length ≤ i := by
 unfold outR
 rw [List.length_map]
 exact Nat.le_trans (List.length_filter_le _ _) (by simp)
theorem spec_out {n : Nat} {a : Nat → Nat} (hn : n ≤ 1048576) : ∀ (m i : Nat), n - i = m → i ≤ n → Ev (fun k => spec_leGroups.l4 k (names n a) (outR n a i) (n : Int) (i : Int)) (grpsR n a)
 | 0, i, hm, hi => by
  obtain rfl : i = n := by omega
  refine Ev.step (f := fun _ => some (outR i a i)) (fun k => ?_) (Ev.now _)
  simp only [spec_leGroups.l4]
  rw [if_neg (by omega)]
 | m + 1, i, hm, hi => by
  have ih := spec_out (a := a) hn m (i + 1) (by omega) (by omega)
  rw [outR_succ] at ih
  have hl := outR_len n a i
  by_cases h1 : a i = i
  ·rw [if_pos h1] at ih
   have g := spec_gather (out := outR n a i) (i := i) hn (by omega) (by omega) n 0 (by omega) (by omega) ih
   refine Ev.step (fun k => ?_) g
   simp only [spec_leGroups.l4]
   rw [if_pos (by omega), if_pos (by omega), if_pos (by rw [names_len]; omega), names_rd a (i := (i : Int)) (by omega) (by omega), Int.toNat_natCast, if_pos (by omega), names_len]
   rfl
  ·rw [if_neg h1] at ih
   refine Ev.step (fun k => ?_) ih
   simp only [spec_leGroups.l4]
   rw [if_pos (by omega), if_pos (by omega), if_pos (by rw [names_len]; omega), names_rd a (i := (i : Int)) (by omega) (by omega), Int.toNat_natCast, if_neg (by omega), w64 (x := (i : Int) + 1) (by omega) (by omega)]
   rfl
/-- the groups of n tanks -/
def groupsM (n : Nat) (J : List (List Int)) : List (List Int) := grpsP n (gIter (jPairs J) n id)
theorem leGroups_ev {n : Nat} {J : List (List Int)} (hn : n ≤ 1048576) (hJ : J.length ≤ 1048576) (hj : ∀ j ∈ J, jOk n j) : Ev (fun k => spec_leGroups.f k (n : Int) J) (groupsM n J) := by
 obtain ⟨M, m1, m2⟩ := spec_passes hn hJ hj (gSum id n) id (Nat.le_refl _)
 have he := gIter_end (n := n) (jPairs_lt hj) m1
 unfold groupsM
 rw [he, grps_eq (gEnd_self m1)]
 unfold spec_leGroups.f
 refine Ev.ifT (by omega) (Ev.ifT (by omega) (Ev.now_ ?_))
 have e : List.replicate ((n : Int)).toNat (0 : Int) = names n (fun k => if k < 0 then k else 0) := by
  apply List.ext_getElem?
  intro i
  rw [names_get, Int.toNat_natCast, List.getElem?_replicate]
  simp
 rw [e, names_len]
 exact spec_init hn n 0 (by omega) (by omega) (m2 _ (spec_out hn n 0 (by omega) (by omega)))
theorem implGroups_ev {x0 : List S63} {J : List (List Int)} (hn : x0.length ≤ 1048576) (hJ : J.length ≤ 1048576) (hj : ∀ j ∈ J, jOk x0.length j) : Ev (fun k => impl_GroupsOf.l0 k x0 J [] (x0.length : Int) 0) (groupsM x0.length J, true) := by
 have h := impl_out (n := x0.length) (a := gIter (jPairs J) x0.length id) hn x0.length 0 (by omega) (by omega)
 exact impl_init (i := 0) hn rfl x0.length (by omega) (by omega) (impl_passes hn rfl hJ hj x0.length 0 id (by omega) (by omega) h)
def goodJ (n : Nat) (J : List (List Int)) : Bool := decide ((J.length : Int) ≤ 15) && !(J.any (joinBad n))
theorem goodJ_ok {n : Nat} (hn : n ≤ 1048576) {J : List (List Int)} (h : goodJ n J = true) : J.length ≤ 15 ∧ ∀ j ∈ J, jOk n j := by
 unfold goodJ at h
 simp only [Bool.and_eq_true, decide_eq_true_eq] at h
 refine ⟨by omega, fun j hj => ?_⟩
 have hb : joinBad n j = false := by
  cases hc : joinBad n j with
  | false => rfl
  | true =>
   have : J.any (joinBad n) = true := List.any_eq_true.2 ⟨j, hj, hc⟩
   rw [this] at h
   exact absurd h.2 (by decide)
 unfold joinBad at hb
 by_cases c2 : j.length = 2
 ·rw [if_pos c2] at hb
  have hw : wrap64 ((n : Int) - 1) = (n : Int) - 1 := w64 (by omega) (by omega)
  rw [hw] at hb
  cases hv : (!(j.any fun z => !(decide (0 ≤ z) && decide (z ≤ (n : Int) - 1)))) with
  | false => rw [hv, if_neg (by decide)] at hb; cases hb
  | true =>
   rw [hv, if_pos rfl] at hb
   have hall : ∀ z ∈ j, 0 ≤ z ∧ z ≤ (n : Int) - 1 := by
    intro z hz
    have : (j.any fun z => !(decide (0 ≤ z) && decide (z ≤ (n : Int) - 1))) = false := by simpa using hv
    have := (List.any_eq_false.1 this) z hz
    simpa using this
   have r0 : rd j 0 ∈ j := by unfold rd; rw [List.getD_eq_getElem?_getD, List.getElem?_eq_getElem (by simp; omega)]; exact List.getElem_mem _
   have r1 : rd j 1 ∈ j := by unfold rd; rw [List.getD_eq_getElem?_getD, List.getElem?_eq_getElem (by simp; omega)]; exact List.getElem_mem _
   have h0 := hall _ r0
   have h1 := hall _ r1
   exact ⟨c2, ⟨h0.1, by omega⟩, ⟨h1.1, by omega⟩, by simpa using hb⟩
 ·rw [if_neg c2] at hb
  cases hb
theorem leJoined_ev (l : List S63) (J : List (List Int)) (hl : l.length ≤ 1048576) (hJ : J.length ≤ 1048576) (hy : ∀ j : Int, 0 ≤ j → j < (J.length : Int) → (rd_L4 J j).length ≤ 1048576) : Ev (fun k => spec_leJoined.f k l J) (goodT l && goodJ l.length J) := by
 unfold spec_leJoined.f
 refine Ev.bind (leTanks_ev l hl) ?_
 cases goodT l with
 | false => rw [Bool.false_and]; exact Ev.ifF (by decide) (Ev.now _)
 | true =>
  rw [Bool.true_and]
  refine Ev.ifT rfl (Ev.bind (joins_ev l.length J hJ hy) ?_)
  exact Ev.now _
theorem areJoins_val (l : List S63) (J : List (List Int)) : impl_AreJoins.f l J = some (goodT l && goodJ l.length J, goodT l) := by
 unfold impl_AreJoins.f
 rw [show impl_AreTanks.f l = some (goodT l) from rfl, Option.bind_some]
 cases goodT l with
 | false => rw [if_neg (by decide)]; rfl
 | true => rw [if_pos rfl]; rfl
def groupsA (l : List S63) (J : List (List Int)) : List (List Int) × Bool := if (goodT l && goodJ l.length J) = true then (groupsM l.length J, true) else ([], false)
theorem implGroupsOf_ev (l : List S63) (J : List (List Int)) (hl : l.length ≤ 1048576) (hJ : J.length ≤ 1048576) : Ev (fun k => impl_GroupsOf.f k l J) (groupsA l J) := by
 unfold impl_GroupsOf.f groupsA
 rw [areJoins_val]
 refine Ev.now_ ?_
 dsimp only
 cases hc : (goodT l && goodJ l.length J) with
 | false => rw [if_neg (by decide)]; exact Ev.ifF (by decide) (Ev.now _)
 | true =>
  rw [if_pos rfl]
  simp only [Bool.and_eq_true] at hc
  have g := goodJ_ok hl hc.2
  exact Ev.ifT rfl (implGroups_ev hl (by omega) g.2)
theorem goodT_len {l : List S63} (h : goodT l = true) : 1 ≤ l.length ∧ l.length ≤ 6 := by
 unfold goodT at h
 simp only [Bool.and_eq_true, decide_eq_true_eq] at h
 omega
theorem abs_val (x : Int) : spec_l1Abs.f x = some (if x > wrap64 (-x) then x else wrap64 (-x)) := by
 unfold spec_l1Abs.f spec_l1Most.f
 split <;> rfl
theorem common_abs_ev {n d : Int} (hn0 : -9223372036854775807 ≤ n) (hn1 : n ≤ 9223372036854775807) (hd0 : 0 ≤ d) : Ev (fun k => spec_veCommon.f k (if n > wrap64 (-n) then n else wrap64 (-n)) d) (Int.gcd n d : Int) := by
 have hw : wrap64 (-n) = -n := w64 (by omega) (by omega)
 have := common_ev (l0 := spec_veCommon.l0) (fun _ _ _ => rfl) (a := if n > wrap64 (-n) then n else wrap64 (-n)) (b := d) (by rw [hw]; split <;> omega) hd0
 rw [(gcd_abs n d).resolve_right (by omega)] at this
 exact this
theorem low_fit {n d : Int} (hn0 : -9223372036854775807 ≤ n) (hn1 : n ≤ 9223372036854775807) (hd0 : 0 < d) (hd1 : d ≤ 9223372036854775807) :
  wrap64 (Int.tdiv n (Int.gcd n d)) = (low n d).1 ∧ wrap64 (Int.tdiv d (Int.gcd n d)) = (low n d).2 := by
 have h1 := tdiv_bound n (Int.gcd n d)
 have h2 := tdiv_bound d (Int.gcd n d)
 exact ⟨w64 (by omega) (by omega), w64 (by omega) (by omega)⟩
theorem lowest_ev {n d : Int} (hn0 : -9223372036854775807 ≤ n) (hn1 : n ≤ 9223372036854775807) (hd0 : 0 < d) (hd1 : d ≤ 9223372036854775807) : Ev (fun k => impl_lowest.f k n d) (low n d) := by
 obtain ⟨K, h⟩ := gcd_ev (l0 := impl_gcd.l0) (fun _ _ _ => rfl) (a := n) (b := d) hn0 hn1 (by omega) hd1
 dsimp only at h
 have hp := gcd_pos (a := n) (b := d) (by omega)
 refine ⟨K, fun k hk => ?_⟩
 show impl_lowest.f k n d = _
 unfold impl_lowest.f impl_gcd.f
 rw [h k hk, Option.bind_some, if_neg (by omega), if_neg (by omega), (low_fit hn0 hn1 hd0 hd1).1, (low_fit hn0 hn1 hd0 hd1).2]
theorem leRatio_ev {n d : Int} (hn0 : -9223372036854775807 ≤ n) (hn1 : n ≤ 9223372036854775807) (hd0 : 0 < d) (hd1 : d ≤ 9223372036854775807) : Ev (fun k => spec_leRatio.f k n d) (low n d) := by
 obtain ⟨K, h⟩ := common_abs_ev (n := n) (d := d) hn0 hn1 (by omega)
 dsimp only at h
 have hp := gcd_pos (a := n) (b := d) (by omega)
 refine ⟨K, fun k hk => ?_⟩
 show spec_leRatio.f k n d = _
 unfold spec_leRatio.f
 rw [if_neg (by omega), abs_val, Option.bind_some, h k hk, Option.bind_some, if_neg (by omega), (low_fit hn0 hn1 hd0 hd1).1, (low_fit hn0 hn1 hd0 hd1).2]
/-- a tank laid behind those whose floor is no higher, from the right (reversed) -/
def insRev (t : S63) : List S63 → List S63
 | [] => [t]
 | y :: r => if t.f1 < y.f1 then y :: insRev t r else t :: y :: r
def insR (t : S63) (l : List S63) : List S63 := (insRev t l.reverse).reverse
theorem insR_snoc (t y : S63) (p : List S63) : insR t (p ++ [y]) = if t.f1 < y.f1 then insR t p ++ [y] else p ++ [y] ++ [t] := by
 unfold insR
 rw [List.reverse_append]
 simp only [List.reverse_cons, List.reverse_nil, List.nil_append, List.cons_append, insRev]
 split <;> simp
theorem insR_len (t : S63) (l : List S63) : (insR t l).length = l.length + 1 := by
 have h : ∀ r, (insRev t r).length = r.length + 1 := by
  intro r
  induction r with
  | nil => rfl
  | cons y r ih => unfold insRev; split <;> simp [ih]
 unfold insR
 rw [List.length_reverse, h, List.length_reverse]
theorem lt_cmp (x y : S63) : Go.Proofs.ltOf cmpT x y = decide (x.f1 < y.f1) := by
 unfold Go.Proofs.ltOf cmpT
 by_cases h : x.f1 < y.f1
 ·simp [h]
 ·by_cases h2 : x.f1 > y.f1
  ·simp [h, h2]
  ·simp [h, h2]
theorem arr_get {l : List S63} {i : Nat} {x : S63} (h : l[i]? = some x) : l.toArray[i]! = x := by
 obtain ⟨hi, hx⟩ := List.getElem?_eq_some_iff.1 h
 rw [getElem!_pos _ i (by simpa using hi)]
 simpa using hx
theorem at_t (p s : List S63) (y t : S63) : (p ++ [y] ++ [t] ++ s)[p.length + 1]? = some t := by simp
theorem at_y (p s : List S63) (y t : S63) : (p ++ [y] ++ [t] ++ s)[p.length]? = some y := by simp
theorem swp_list (p s : List S63) (y t : S63) : Go.Sort.swp (p ++ [y] ++ [t] ++ s).toArray (p.length + 1) p.length = (p ++ [t] ++ [y] ++ s).toArray := by
 unfold Go.Sort.swp
 rw [arr_get (at_t p s y t), arr_get (at_y p s y t), List.setIfInBounds_toArray, List.setIfInBounds_toArray]
 congr 1
 simp only [List.append_assoc, List.cons_append, List.nil_append]
 rw [List.set_append_right _ _ (by omega), List.set_append_right _ _ (by omega)]
 simp
theorem insInner_list (t : S63) : ∀ (n : Nat) (p s : List S63), p.length = n → Go.Sort.insInner (Go.Proofs.ltOf cmpT) 0 n (p ++ [t] ++ s).toArray = (insR t p ++ s).toArray
 | 0, p, s, h => by
  obtain rfl : p = [] := List.eq_nil_of_length_eq_zero h
  simp [Go.Sort.insInner, insR, insRev]
 | n + 1, p, s, h => by
  obtain ⟨p', y, rfl⟩ : ∃ p' y, p = p' ++ [y] := ⟨p.dropLast, p.getLast (by intro e; rw [e] at h; simp at h), (List.dropLast_concat_getLast _).symm⟩
  have hn : p'.length = n := by simp at h; exact h
  unfold Go.Sort.insInner
  have e1 : (p' ++ [y] ++ [t] ++ s).toArray[n + 1]! = t := by rw [← hn]; exact arr_get (at_t p' s y t)
  have e2 : (p' ++ [y] ++ [t] ++ s).toArray[n]! = y := by rw [← hn]; exact arr_get (at_y p' s y t)
  rw [e1, e2, lt_cmp, insR_snoc]
  by_cases hc : t.f1 < y.f1
  ·rw [if_pos (by simp [hc]), if_pos hc, ← hn, swp_list, hn]
   have := insInner_list t n p' ([y] ++ s) hn
   simpa using this
  ·rw [if_neg (by simp [hc]), if_neg hc]
theorem insOuter_list : ∀ (m : Nat) (P R : List S63), R.length = m → Go.Sort.insOuter (Go.Proofs.ltOf cmpT) 0 (P.length + R.length) P.length (P ++ R).toArray = (R.foldl (fun acc t => insR t acc) P).toArray
 | 0, P, R, h => by
  obtain rfl : R = [] := List.eq_nil_of_length_eq_zero h
  rw [Go.Sort.insOuter, if_neg (by simp)]
  simp
 | m + 1, P, t :: R, h => by
  rw [Go.Sort.insOuter, if_pos (by simp)]
  have e := insInner_list t P.length P R rfl
  rw [show P ++ t :: R = P ++ [t] ++ R by simp, e]
  have e2 := insOuter_list m (insR t P) R (by simpa using h)
  rw [insR_len] at e2
  rw [List.foldl_cons, ← e2]
  simp only [List.length_cons]
  congr 1
  omega
theorem sortT_eq (l : List S63) (h : 1 ≤ l.length) : sortT l = l.foldl (fun acc t => insR t acc) [] := by
 obtain ⟨x, r, rfl⟩ : ∃ x r, l = x :: r := by
  cases l with
  | nil => simp at h
  | cons x r => exact ⟨x, r, rfl⟩
 have e := insOuter_list r.length [x] r rfl
 unfold sortT Go.Sort.insertionSort
 rw [show (x :: r).length = [x].length + r.length by simp; omega]
 show (Go.Sort.insOuter (Go.Proofs.ltOf cmpT) 0 ([x].length + r.length) [x].length ([x] ++ r).toArray).toList = _
 rw [e]
 simp [insR, insRev]
theorem tw_iff {α : Type} {p : α → Bool} : ∀ {l : List α}, l.takeWhile p = l ↔ ∀ z ∈ l, p z = true
 | [] => by simp
 | y :: l => by
  rw [List.takeWhile_cons]
  by_cases h : p y = true
  ·rw [if_pos h]
   simp [h, tw_iff (l := l)]
  ·rw [if_neg h]
   simp [h]
theorem dw_iff {α : Type} {p : α → Bool} : ∀ {l : List α}, l.dropWhile p = [] ↔ ∀ z ∈ l, p z = true
 | [] => by simp
 | y :: l => by
  rw [List.dropWhile_cons]
  by_cases h : p y = true
  ·rw [if_pos h]
   simp [h, dw_iff (l := l)]
  ·rw [if_neg h]
   simp [h]
def srt (l : List S63) : Prop := l.Pairwise fun a b => a.f1 ≤ b.f1
theorem mem_insRev {t z : S63} : ∀ {r : List S63}, z ∈ insRev t r → z = t ∨ z ∈ r
 | [], h => by simp [insRev] at h; exact .inl h
 | y :: r, h => by
  unfold insRev at h
  split at h
  ·rcases List.mem_cons.1 h with rfl | h
   ·exact .inr List.mem_cons_self
   ·exact (mem_insRev h).imp id (List.mem_cons_of_mem _)
  ·rcases List.mem_cons.1 h with rfl | h
   ·exact .inl rfl
   ·exact .inr h
theorem mem_insR {t z : S63} {l : List S63} (h : z ∈ insR t l) : z = t ∨ z ∈ l := by
 unfold insR at h
 rw [List.mem_reverse] at h
 exact (mem_insRev h).imp id (by simp)
theorem insRev_srt (t : S63) : ∀ (r : List S63), r.Pairwise (fun a b => b.f1 ≤ a.f1) → (insRev t r).Pairwise (fun a b => b.f1 ≤ a.f1)
 | [], _ => by simp [insRev]
 | y :: r, h => by
  obtain ⟨h1, h2⟩ := List.pairwise_cons.1 h
  unfold insRev
  split
  ·rename_i hc
   refine List.pairwise_cons.2 ⟨fun z hz => ?_, insRev_srt t r h2⟩
   rcases mem_insRev hz with rfl | hz
   ·omega
   ·exact h1 z hz
  ·rename_i hc
   refine List.pairwise_cons.2 ⟨fun z hz => ?_, h⟩
   rcases List.mem_cons.1 hz with rfl | hz
   ·omega
   ·have := h1 z hz
    omega
theorem insR_srt (t : S63) {l : List S63} (h : srt l) : srt (insR t l) := by
 unfold srt insR
 rw [List.pairwise_reverse]
 exact insRev_srt t _ (by rw [List.pairwise_reverse]; exact h)
def insL (t : S63) (l : List S63) : List S63 := l.takeWhile (fun y => decide (y.f1 ≤ t.f1)) ++ [t] ++ l.dropWhile (fun y => decide (y.f1 ≤ t.f1))
theorem insL_eq (t : S63) (l : List S63) (h : srt l) : insL t l = insR t l := by
 obtain ⟨n, hn⟩ : ∃ n, l.length = n := ⟨_, rfl⟩
 induction n generalizing l with
 | zero =>
  obtain rfl := List.eq_nil_of_length_eq_zero hn
  simp [insL, insR, insRev]
 | succ n ih =>
  obtain ⟨p, y, rfl⟩ : ∃ p y, l = p ++ [y] := ⟨l.dropLast, l.getLast (by intro e; rw [e] at hn; simp at hn), (List.dropLast_concat_getLast _).symm⟩
  obtain ⟨h1, _, h2⟩ := List.pairwise_append.1 h
  have h3 : ∀ z ∈ p, z.f1 ≤ y.f1 := fun z hz => h2 z hz y (by simp)
  rw [insR_snoc]
  by_cases hc : t.f1 < y.f1
  ·rw [if_pos hc, ← ih p h1 (by simpa using hn)]
   unfold insL
   rw [List.takeWhile_append, List.dropWhile_append]
   have hy : ¬ y.f1 ≤ t.f1 := by omega
   by_cases ha : ∀ z ∈ p, z.f1 ≤ t.f1
   ·have e1 : p.takeWhile (fun y => decide (y.f1 ≤ t.f1)) = p := tw_iff.2 (by simpa using ha)
    have e2 : p.dropWhile (fun y => decide (y.f1 ≤ t.f1)) = [] := dw_iff.2 (by simpa using ha)
    rw [e1, e2]
    simp [hy]
   ·have e1 : ¬ (p.takeWhile (fun y => decide (y.f1 ≤ t.f1))).length = p.length := by
     intro e
     apply ha
     have e3 : p.takeWhile (fun y => decide (y.f1 ≤ t.f1)) = p := (List.takeWhile_prefix _).eq_of_length e
     simpa using tw_iff.1 e3
    have e2 : ¬ (p.dropWhile (fun y => decide (y.f1 ≤ t.f1))).isEmpty = true := by
     intro e
     apply ha
     have e3 := List.isEmpty_iff.1 e
     simpa using dw_iff.1 e3
    rw [if_neg e1, if_neg e2]
    simp
  ·rw [if_neg hc]
   have ha : ∀ z ∈ p ++ [y], z.f1 ≤ t.f1 := by
    intro z hz
    rcases List.mem_append.1 hz with hz | hz
    ·have := h3 z hz
     omega
    ·rw [List.mem_singleton.1 hz]
     omega
   unfold insL
   rw [tw_iff.2 (by simpa using ha), dw_iff.2 (by simpa using ha)]
   simp
theorem fold_eq (R : List S63) : ∀ (P : List S63), srt P → R.foldl (fun acc t => insL t acc) P = R.foldl (fun acc t => insR t acc) P ∧ srt (R.foldl (fun acc t => insR t acc) P) := by
 induction R with
 | nil => exact fun P h => ⟨rfl, h⟩
 | cons t R ih =>
  intro P h
  rw [List.foldl_cons, List.foldl_cons, insL_eq t P h]
  exact ih _ (insR_srt t h)
theorem mem_fold {R : List S63} : ∀ {P : List S63} {z : S63}, z ∈ R.foldl (fun acc t => insR t acc) P → z ∈ R ∨ z ∈ P := by
 induction R with
 | nil => exact fun h => .inr h
 | cons t R ih =>
  intro P z h
  rw [List.foldl_cons] at h
  rcases ih h with h | h
  ·exact .inl (List.mem_cons_of_mem _ h)
  ·rcases mem_insR h with rfl | h
   ·exact .inl List.mem_cons_self
   ·exact .inr h
theorem len_fold (R : List S63) : ∀ (P : List S63), (R.foldl (fun acc t => insR t acc) P).length = P.length + R.length := by
 induction R with
 | nil => exact fun P => by simp
 | cons t R ih =>
  intro P
  rw [List.foldl_cons, ih, insR_len]
  simp
  omega
theorem rdT_get {l : List S63} {i : Int} (h0 : 0 ≤ i) (h1 : i < l.length) : l[i.toNat]? = some (rd_T63 l i) := by
 unfold rd_T63
 rw [List.getD_eq_getElem?_getD, List.getElem?_eq_getElem (by omega)]
 rfl
theorem rdT_mem {l : List S63} {i : Int} (h0 : 0 ≤ i) (h1 : i < l.length) : rd_T63 l i ∈ l := List.mem_of_getElem? (rdT_get h0 h1)
theorem rdT_drop {l : List S63} {i : Int} (h0 : 0 ≤ i) (h1 : i < l.length) : l.drop i.toNat = rd_T63 l i :: l.drop (i + 1).toNat := by
 rw [List.drop_eq_getElem_cons (by omega), show (i + 1).toNat = i.toNat + 1 by omega]
 congr 1
 have h := rdT_get h0 h1
 rw [List.getElem?_eq_getElem (by omega)] at h
 exact Option.some.inj h
/-- how an index is laid behind those whose floor is no higher -/
def insI (X : List S63) (i : Int) (out : List Int) : List Int := out.takeWhile (fun j => decide ((rd_T63 X j).f1 ≤ (rd_T63 X i).f1)) ++ [i] ++ out.dropWhile (fun j => decide ((rd_T63 X j).f1 ≤ (rd_T63 X i).f1))
theorem insI_map (X : List S63) (i : Int) (out : List Int) : (insI X i out).map (rd_T63 X) = insL (rd_T63 X i) (out.map (rd_T63 X)) := by
 unfold insI insL
 rw [List.takeWhile_map, List.dropWhile_map]
 simp [Function.comp_def]
theorem insI_len (X : List S63) (i : Int) (out : List Int) : (insI X i out).length = out.length + 1 := by
 have := congrArg List.length (List.takeWhile_append_dropWhile (p := fun j => decide ((rd_T63 X j).f1 ≤ (rd_T63 X i).f1)) (l := out))
 unfold insI
 simp only [List.length_append, List.length_cons, List.length_nil] at this ⊢
 omega
theorem insI_mem {X : List S63} {i : Int} {out : List Int} {z : Int} (h : z ∈ insI X i out) : z = i ∨ z ∈ out := by
 unfold insI at h
 rcases List.mem_append.1 h with h | h
 ·rcases List.mem_append.1 h with h | h
  ·exact .inr ((List.takeWhile_prefix _).subset h)
  ·exact .inl (by simpa using h)
 ·exact .inr ((List.dropWhile_suffix _).subset h)
theorem own_val (l : List Int) (hl : l.length ≤ 1048576) : spec_l1Own.f l = some l := by
 unfold spec_l1Own.f
 simp only [Option.bind_some, List.length_nil, List.nil_append]
 rw [if_pos (by omega)]
theorem orderIn_ev (X : List S63) (hX : X.length ≤ 1000) (out : List Int) (i : Int) (hi0 : 0 ≤ i) (hi1 : i < X.length) (ho : ∀ z ∈ out, 0 ≤ z ∧ z < X.length) (hl : out.length ≤ 1000) {r : List Int}
  (hr : Ev (fun k => spec_leOrder.l0 k X (insI X i out) X (X.length : Int) (i + 1)) r) : ∀ (m : Nat) (q : Int), 0 ≤ q → (out.length : Int) - q = m → (∀ z ∈ out.take q.toNat, (rd_T63 X z).f1 ≤ (rd_T63 X i).f1) →
  Ev (fun k => spec_leOrder.l1 k X out i q X (X.length : Int) i (rd_T63 X i).f0 (rd_T63 X i).f1 (rd_T63 X i).f2) r := by
 intro m
 induction m with
 | zero =>
  intro q h0 hm ha
  have hq : q.toNat = out.length := by omega
  rw [hq, List.take_length] at ha
  have e : insI X i out = out ++ [i] := by
   unfold insI
   rw [tw_iff.2 (by simpa using ha), dw_iff.2 (by simpa using ha)]
   simp
  rw [e] at hr
  refine Ev.step (f := fun k => spec_leOrder.l0 k X (out ++ [i]) X (X.length : Int) (i + 1)) (fun k => ?_) hr
  simp only [spec_leOrder.l1]
  rw [if_neg (by omega), if_pos h0, if_pos (by omega), hq, List.take_length, own_val out (by omega), Option.bind_some, if_pos (by omega), Option.bind_some, List.drop_length, Option.bind_some, if_pos (by simp; omega), w64 (by omega) (by omega)]
  simp
 | succ m ih =>
  intro q h0 hm ha
  have hq : q.toNat < out.length := by omega
  have hrd : rd out q = out[q.toNat] := by
   unfold rd
   exact getD_eq 0 hq
  have hz := ho _ (List.getElem_mem hq)
  rw [← hrd] at hz
  by_cases hc : (rd_T63 X (rd out q)).f1 ≤ (rd_T63 X i).f1
  ·refine Ev.step (f := fun k => spec_leOrder.l1 k X out i (q + 1) X (X.length : Int) i (rd_T63 X i).f0 (rd_T63 X i).f1 (rd_T63 X i).f2) (fun k => ?_) (ih (q + 1) (by omega) (by omega) ?_)
   ·simp only [spec_leOrder.l1]
    rw [if_pos (by omega), if_pos h0, if_pos hz.1, if_pos hz.2, if_pos hc, w64 (by omega) (by omega)]
   ·intro z hz2
    rw [show (q + 1).toNat = q.toNat + 1 by omega, List.take_add_one, List.getElem?_eq_getElem hq] at hz2
    rcases List.mem_append.1 hz2 with h | h
    ·exact ha z h
    ·have : z = out[q.toNat] := by simpa using h
     rw [this, ← hrd]
     exact hc
  ·have e : insI X i out = out.take q.toNat ++ [i] ++ out.drop q.toNat := by
    have ed : out.drop q.toNat = rd out q :: out.drop (q.toNat + 1) := by rw [List.drop_eq_getElem_cons hq, hrd]
    have es : out = out.take q.toNat ++ out.drop q.toNat := (List.take_append_drop _ _).symm
    unfold insI
    generalize hp : (fun j => decide ((rd_T63 X j).f1 ≤ (rd_T63 X i).f1)) = p
    have h1 : ∀ z ∈ out.take q.toNat, p z = true := by
     intro z hz2
     rw [← hp]
     exact decide_eq_true (ha z hz2)
    have h2 : p (rd out q) = false := by
     rw [← hp]
     exact decide_eq_false hc
    have t1 : out.takeWhile p = out.take q.toNat := by
     conv => lhs; rw [es]
     rw [List.takeWhile_append_of_pos h1, ed, List.takeWhile_cons, if_neg (by rw [h2]; decide), List.append_nil]
    have t2 : out.dropWhile p = out.drop q.toNat := by
     conv => lhs; rw [es]
     rw [List.dropWhile_append_of_pos h1, ed, List.dropWhile_cons, if_neg (by rw [h2]; decide)]
    rw [t1, t2]
   rw [e] at hr
   refine Ev.step (f := fun k => spec_leOrder.l0 k X (out.take q.toNat ++ [i] ++ out.drop q.toNat) X (X.length : Int) (i + 1)) (fun k => ?_) hr
   simp only [spec_leOrder.l1]
   have hl1 : (out.take q.toNat).length ≤ 1000 := by rw [List.length_take]; omega
   have hl2 : (out.drop q.toNat).length ≤ 1000 := by rw [List.length_drop]; omega
   rw [if_pos (by omega), if_pos h0, if_pos hz.1, if_pos hz.2, if_neg hc, if_pos (by omega), own_val _ (by omega), Option.bind_some, if_pos (by omega), Option.bind_some, Option.bind_some, if_pos (by rw [List.length_append]; simp only [List.length_cons, List.length_nil]; omega), w64 (by omega) (by omega)]
theorem order_ev (X : List S63) (hX : X.length ≤ 500) : ∀ (m : Nat) (i : Int) (out : List Int), 0 ≤ i → (X.length : Int) - i = m → (out.length : Int) = i → (∀ z ∈ out, 0 ≤ z ∧ z < X.length) →
  ∃ ord : List Int, Ev (fun k => spec_leOrder.l0 k X out X (X.length : Int) i) ord ∧ (∀ z ∈ ord, 0 ≤ z ∧ z < X.length) ∧ ord.length = X.length ∧ ord = (listFrom id m i).foldl (fun acc j => insI X j acc) out ∧ ord.map (rd_T63 X) = (X.drop i.toNat).foldl (fun acc t => insL t acc) (out.map (rd_T63 X)) := by
 intro m
 induction m with
 | zero =>
  intro i out h0 hm hl ho
  refine ⟨out, Ev.step (f := fun _ => some out) (fun k => by simp only [spec_leOrder.l0]; rw [if_neg (by omega)]) (Ev.now _), ho, by omega, rfl, ?_⟩
  rw [List.drop_eq_nil_of_le (by omega)]
  rfl
 | succ m ih =>
  intro i out h0 hm hl ho
  obtain ⟨ord, h1, h2, h3, h4, h5⟩ := ih (i + 1) (insI X i out) (by omega) (by omega) (by rw [insI_len]; omega) (fun z hz => by
   rcases insI_mem hz with rfl | hz
   ·omega
   ·exact ho z hz)
  refine ⟨ord, ?_, h2, h3, ?_, ?_⟩
  ·refine Ev.step (f := fun k => spec_leOrder.l1 k X out i 0 X (X.length : Int) i (rd_T63 X i).f0 (rd_T63 X i).f1 (rd_T63 X i).f2) (fun k => ?_) (orderIn_ev X (by omega) out i h0 (by omega) ho (by omega) h1 out.length 0 (by omega) (by omega) (by simp))
   simp only [spec_leOrder.l0]
   rw [if_pos (by omega), if_pos h0, if_pos (by omega)]
  ·rw [h4]
   rfl
  ·rw [h5, rdT_drop h0 (by omega), List.foldl_cons, insI_map]
def okT (X : List S63) : Prop := ∀ x ∈ X, 1 ≤ x.f0 ∧ x.f0 ≤ 50 ∧ 0 ≤ x.f1 ∧ x.f1 ≤ 100 ∧ 0 ≤ x.f2 ∧ x.f2 ≤ 10000
theorem tankOk_le {x : S63} (h : tankOk x = true) : 1 ≤ x.f0 ∧ x.f0 ≤ 50 ∧ 0 ≤ x.f1 ∧ x.f1 ≤ 100 ∧ 0 ≤ x.f2 ∧ x.f2 ≤ 10000 := by
 unfold tankOk at h
 simp only [Bool.and_eq_true, decide_eq_true_eq] at h
 omega
theorem goodT_le {X : List S63} (h : goodT X = true) : 1 ≤ X.length ∧ X.length ≤ 6 ∧ okT X := by
 unfold goodT at h
 simp only [Bool.and_eq_true, decide_eq_true_eq, Bool.not_eq_true', List.any_eq_false] at h
 refine ⟨by omega, by omega, fun x hx => tankOk_le ?_⟩
 have := h.2 x hx
 simpa using this
/-- the water of all tanks -/
def wsum (X : List S63) : Int := (X.map fun x => x.f2).sum
theorem wsum_le {X : List S63} (h : okT X) : 0 ≤ wsum X ∧ wsum X ≤ 10000 * X.length := by
 induction X with
 | nil => simp [wsum]
 | cons x X ih =>
  have h1 := h x List.mem_cons_self
  have h2 := ih (fun y hy => h y (List.mem_cons_of_mem _ hy))
  simp only [wsum, List.map_cons, List.sum_cons, List.length_cons] at h2 ⊢
  omega
theorem waterOf_ev (X : List S63) (hX : X.length ≤ 500) (ok : okT X) : Ev (fun k => impl_waterOf.f k X) (wsum X) := by
 have key : ∀ (m : Nat) (i s : Int), 0 ≤ i → (X.length : Int) - i = m → 0 ≤ s → s ≤ 10000 * i → Ev (fun k => impl_waterOf.l0 k s X (X.length : Int) i) (s + wsum (X.drop i.toNat)) := by
  intro m
  induction m with
  | zero =>
   intro i s h0 hm hs0 hs1
   rw [List.drop_eq_nil_of_le (by omega)]
   exact Ev.step (f := fun _ => some (s + wsum [])) (fun k => by simp only [impl_waterOf.l0]; rw [if_neg (by omega)]; simp [wsum]) (Ev.now _)
  | succ m ih =>
   intro i s h0 hm hs0 hs1
   have hk := ok _ (rdT_mem h0 (show i < X.length by omega))
   rw [rdT_drop h0 (by omega)]
   refine Ev.step (f := fun k => impl_waterOf.l0 k (s + (rd_T63 X i).f2) X (X.length : Int) (i + 1)) (fun k => ?_) ?_
   ·simp only [impl_waterOf.l0]
    rw [if_pos (by omega), if_pos h0, if_pos (by omega), w64 (x := i + 1) (by omega) (by omega), w64 (by omega) (by omega)]
   ·have := ih (i + 1) (s + (rd_T63 X i).f2) (by omega) (by omega) (by omega) (by omega)
    rw [show s + wsum (rd_T63 X i :: X.drop (i + 1).toNat) = s + (rd_T63 X i).f2 + wsum (X.drop (i + 1).toNat) by simp [wsum]; omega]
    exact this
 have := key X.length 0 0 (by omega) (by omega) (by omega) (by omega)
 simpa [impl_waterOf.f] using this
/-- the level of tanks in the order of their floors: s is their water and what lies below it so far, a their area -/
def lev (s a : Int) : List S63 → Int × Int
 | [] => (0, 0)
 | [t] => low (s + t.f0 * t.f1) (a + t.f0)
 | t :: u :: r => if s + t.f0 * t.f1 ≤ (a + t.f0) * u.f1 then low (s + t.f0 * t.f1) (a + t.f0) else lev (s + t.f0 * t.f1) (a + t.f0) (u :: r)
theorem prod_le {x : S63} (h : 1 ≤ x.f0 ∧ x.f0 ≤ 50 ∧ 0 ≤ x.f1 ∧ x.f1 ≤ 100 ∧ 0 ≤ x.f2 ∧ x.f2 ≤ 10000) : 0 ≤ x.f0 * x.f1 ∧ x.f0 * x.f1 ≤ 5000 := by
 have h1 := Int.mul_nonneg (show 0 ≤ x.f0 by omega) (show 0 ≤ x.f1 by omega)
 have h2 : x.f0 * x.f1 ≤ 50 * 100 := Int.mul_le_mul (by omega) (by omega) (by omega) (by omega)
 omega
theorem prod2_le {a f : Int} (h0 : 0 ≤ a) (h1 : a ≤ 50000) (h2 : 0 ≤ f) (h3 : f ≤ 100) : 0 ≤ a * f ∧ a * f ≤ 5000000 := by
 have h4 := Int.mul_nonneg h0 h2
 have h5 : a * f ≤ 50000 * 100 := Int.mul_le_mul h1 h3 h2 (by omega)
 omega
theorem low_mul {n d : Int} (hd : 0 < d) : (low n d).1 * Int.gcd n d = n ∧ (low n d).2 * Int.gcd n d = d :=
 ⟨Int.tdiv_mul_cancel (Int.gcd_dvd_left ..), Int.tdiv_mul_cancel (Int.gcd_dvd_right ..)⟩
theorem low_lt {n d f : Int} (hd : 0 < d) : f * (low n d).2 < (low n d).1 ↔ f * d < n := by
 obtain ⟨h1, h2⟩ := low_mul (n := n) hd
 have hp := gcd_pos (a := n) (b := d) (by omega)
 generalize (Int.gcd n d : Int) = g at h1 h2 hp
 constructor
 ·intro h
  have := Int.mul_lt_mul_of_pos_right h hp
  rwa [Int.mul_assoc, h2, h1] at this
 ·intro h
  have h3 : f * (low n d).2 * g < (low n d).1 * g := by rw [Int.mul_assoc, h2, h1]; exact h
  exact Int.lt_of_mul_lt_mul_right h3 (by omega)
theorem low_bound {n d : Int} (hn : 0 ≤ n) (hd : 0 < d) : 0 ≤ (low n d).1 ∧ (low n d).1 ≤ n ∧ 0 < (low n d).2 ∧ (low n d).2 ≤ d := by
 have h1 := tdiv_bound n (Int.gcd n d)
 have h2 := tdiv_bound d (Int.gcd n d)
 have h3 := low_den_pos (n := n) hd
 have h4 : 0 ≤ (low n d).1 := Int.tdiv_nonneg hn (Int.natCast_nonneg _)
 unfold low at h3 h4 ⊢
 dsimp only at h3 h4 ⊢
 omega
theorem specLev_ev (X : List S63) (hX : X.length ≤ 500) (ok : okT X) (ord : List Int) (ho : ∀ z ∈ ord, 0 ≤ z ∧ z < X.length) (w : Int) (hw0 : 0 ≤ w) (hw1 : w ≤ 5000000) (hl : ord.length ≤ 500) : ∀ (m : Nat) (i a wt : Int), 0 ≤ i → (ord.length : Int) - i = m + 1 → 0 ≤ a → a ≤ 50 * i → 0 ≤ wt → wt ≤ 5000 * i →
  Ev (fun k => spec_leCommon.l1 k X ord w a wt ord (ord.length : Int) i) (lev (w + wt) a ((ord.map (rd_T63 X)).drop i.toNat)) := by
 have hget : ∀ i : Int, 0 ≤ i → i < ord.length → 0 ≤ rd ord i ∧ rd ord i < X.length ∧ rd_T63 (ord.map (rd_T63 X)) i = rd_T63 X (rd ord i) := by
  intro i h0 h1
  have hq : i.toNat < ord.length := by omega
  have hrd : rd ord i = ord[i.toNat] := by
   unfold rd
   exact getD_eq 0 hq
  have hz := ho _ (List.getElem_mem hq)
  rw [← hrd] at hz
  refine ⟨hz.1, hz.2, ?_⟩
  have h2 := rdT_get (l := ord.map (rd_T63 X)) h0 (by simpa using h1)
  rw [List.getElem?_map, List.getElem?_eq_getElem hq, ← hrd] at h2
  exact (Option.some.inj h2).symm
 intro m
 induction m with
 | zero =>
  intro i a wt h0 hm ha0 ha1 hw2 hw3
  obtain ⟨g1, g2, g3⟩ := hget i h0 (by omega)
  have hk := ok _ (rdT_mem g1 g2)
  have hp := prod_le hk
  rw [rdT_drop h0 (by simp; omega), g3, List.drop_eq_nil_of_le (by simp; omega)]
  generalize hx : rd_T63 X (rd ord i) = x at hk hp
  have hr := leRatio_ev (n := w + (wt + x.f0 * x.f1)) (d := a + x.f0) (by omega) (by omega) (by omega) (by omega)
  refine Ev.step (f := fun k => (spec_leRatio.f k (w + (wt + x.f0 * x.f1)) (a + x.f0)).bind fun bt => some (bt.1, bt.2)) (fun k => ?_) ?_
  ·simp only [spec_leCommon.l1, hx]
   rw [if_pos (by omega), if_pos h0, if_pos (by omega), if_pos g1, if_pos g2, w64 (x := i + 1) (by omega) (by omega), if_pos (by omega), w64 (x := x.f0 * x.f1) (by omega) (by omega), w64 (x := wt + x.f0 * x.f1) (by omega) (by omega), w64 (x := a + x.f0) (by omega) (by omega), w64 (x := w + (wt + x.f0 * x.f1)) (by omega) (by omega)]
  ·refine Ev.bind hr ?_
   unfold lev
   rw [Int.add_assoc]
   exact Ev.now _
 | succ m ih =>
  intro i a wt h0 hm ha0 ha1 hw2 hw3
  obtain ⟨g1, g2, g3⟩ := hget i h0 (by omega)
  obtain ⟨u1, u2, u3⟩ := hget (i + 1) (by omega) (by omega)
  have hk := ok _ (rdT_mem g1 g2)
  have hp := prod_le hk
  have hku := ok _ (rdT_mem u1 u2)
  have hi2 := ih (i + 1) (a + (rd_T63 X (rd ord i)).f0) (wt + (rd_T63 X (rd ord i)).f0 * (rd_T63 X (rd ord i)).f1) (by omega) (by omega) (by omega) (by omega) (by omega) (by omega)
  rw [rdT_drop (i := i) h0 (by simp; omega), g3]
  rw [rdT_drop (i := i + 1) (by omega) (by simp; omega), u3] at hi2 ⊢
  generalize hx : rd_T63 X (rd ord i) = x at hk hp hi2
  generalize hu : rd_T63 X (rd ord (i + 1)) = u at hku hi2
  have hq := prod2_le (a := a + x.f0) (f := u.f1) (by omega) (by omega) (by omega) (by omega)
  have hr := leRatio_ev (n := w + (wt + x.f0 * x.f1)) (d := a + x.f0) (by omega) (by omega) (by omega) (by omega)
  unfold lev
  rw [show w + wt + x.f0 * x.f1 = w + (wt + x.f0 * x.f1) by omega]
  by_cases hc : w + (wt + x.f0 * x.f1) ≤ (a + x.f0) * u.f1
  ·rw [if_pos hc]
   refine Ev.step (f := fun k => (spec_leRatio.f k (w + (wt + x.f0 * x.f1)) (a + x.f0)).bind fun bt => some (bt.1, bt.2)) (fun k => ?_) (Ev.bind hr (Ev.now _))
   simp only [spec_leCommon.l1, w64 (x := i + 1) (show -9223372036854775808 ≤ i + 1 by omega) (by omega), hx, hu]
   rw [if_pos (by omega), if_pos h0, if_pos (by omega), if_pos g1, if_pos g2, if_neg (by omega), if_pos (by omega), if_pos (by omega), if_pos u1, if_pos u2, w64 (x := x.f0 * x.f1) (by omega) (by omega), w64 (x := wt + x.f0 * x.f1) (by omega) (by omega), w64 (x := a + x.f0) (by omega) (by omega), w64 (x := w + (wt + x.f0 * x.f1)) (by omega) (by omega), w64 (x := (a + x.f0) * u.f1) (by omega) (by omega), if_pos hc]
  ·rw [if_neg hc]
   refine Ev.step (f := fun k => spec_leCommon.l1 k X ord w (a + x.f0) (wt + x.f0 * x.f1) ord (ord.length : Int) (i + 1)) (fun k => ?_) hi2
   simp only [spec_leCommon.l1, w64 (x := i + 1) (show -9223372036854775808 ≤ i + 1 by omega) (by omega), hx, hu]
   rw [if_pos (by omega), if_pos h0, if_pos (by omega), if_pos g1, if_pos g2, if_neg (by omega), if_pos (by omega), if_pos (by omega), if_pos u1, if_pos u2, w64 (x := x.f0 * x.f1) (by omega) (by omega), w64 (x := wt + x.f0 * x.f1) (by omega) (by omega), w64 (x := a + x.f0) (by omega) (by omega), w64 (x := w + (wt + x.f0 * x.f1)) (by omega) (by omega), w64 (x := (a + x.f0) * u.f1) (by omega) (by omega), if_neg hc]
theorem implLev_ev (T : List S63) (hl : T.length ≤ 500) (ok : okT T) : ∀ (m : Nat) (i s a n d : Int), 0 ≤ i → (T.length : Int) - i = m + 1 → 0 ≤ a → a ≤ 50 * i → 0 ≤ s → s ≤ 5000000 + 5000 * i →
  Ev (fun k => impl_common.l0 k T s a T (T.length : Int) i n d) (lev s a (T.drop i.toNat)) := by
 intro m
 induction m with
 | zero =>
  intro i s a n d h0 hm ha0 ha1 hs0 hs1
  have hk := ok _ (rdT_mem h0 (show i < T.length by omega))
  have hp := prod_le hk
  rw [rdT_drop h0 (by omega), List.drop_eq_nil_of_le (by omega)]
  generalize hx : rd_T63 T i = x at hk hp
  have hr := lowest_ev (n := s + x.f0 * x.f1) (d := a + x.f0) (by omega) (by omega) (by omega) (by omega)
  refine Ev.step (f := fun k => (impl_lowest.f k (s + x.f0 * x.f1) (a + x.f0)).bind fun bt => impl_common.l0 k T (s + x.f0 * x.f1) (a + x.f0) T (T.length : Int) (i + 1) bt.1 bt.2) (fun k => ?_) ?_
  ·simp only [impl_common.l0, hx, w64 (x := i + 1) (show -9223372036854775808 ≤ i + 1 by omega) (by omega)]
   rw [if_pos (by omega), if_pos h0, if_pos (by omega), w64 (x := x.f0 * x.f1) (by omega) (by omega), w64 (x := s + x.f0 * x.f1) (by omega) (by omega), w64 (x := a + x.f0) (by omega) (by omega)]
   congr 1
   funext bt
   rw [if_neg (by omega)]
  ·refine Ev.bind hr ?_
   unfold lev
   refine Ev.step (f := fun _ => some (low (s + x.f0 * x.f1) (a + x.f0))) (fun k => ?_) (Ev.now _)
   simp only [impl_common.l0]
   rw [if_neg (by omega)]
 | succ m ih =>
  intro i s a n d h0 hm ha0 ha1 hs0 hs1
  have hk := ok _ (rdT_mem h0 (show i < T.length by omega))
  have hp := prod_le hk
  have hku := ok _ (rdT_mem (show 0 ≤ i + 1 by omega) (show i + 1 < T.length by omega))
  have hi2 := fun n d => ih (i + 1) (s + (rd_T63 T i).f0 * (rd_T63 T i).f1) (a + (rd_T63 T i).f0) n d (by omega) (by omega) (by omega) (by omega) (by omega) (by omega)
  rw [rdT_drop (i := i) h0 (by omega)]
  rw [rdT_drop (i := i + 1) (by omega) (by omega)] at hi2 ⊢
  generalize hx : rd_T63 T i = x at hk hp hi2
  generalize hu : rd_T63 T (i + 1) = u at hku hi2
  have hq := prod2_le (a := a + x.f0) (f := u.f1) (by omega) (by omega) (by omega) (by omega)
  have hr := lowest_ev (n := s + x.f0 * x.f1) (d := a + x.f0) (by omega) (by omega) (by omega) (by omega)
  have hb := low_bound (n := s + x.f0 * x.f1) (d := a + x.f0) (by omega) (by omega)
  have hq2 := prod2_le (a := (low (s + x.f0 * x.f1) (a + x.f0)).2) (f := u.f1) (by omega) (by omega) (by omega) (by omega)
  rw [Int.mul_comm] at hq2
  have hlt := low_lt (n := s + x.f0 * x.f1) (d := a + x.f0) (f := u.f1) (by omega)
  rw [Int.mul_comm u.f1 (a + x.f0)] at hlt
  refine Ev.step (f := fun k => (impl_lowest.f k (s + x.f0 * x.f1) (a + x.f0)).bind fun bt => (impl_Ratio_isLess.f u.f1 1 bt.1 bt.2).bind fun t => if t = true then impl_common.l0 k T (s + x.f0 * x.f1) (a + x.f0) T (T.length : Int) (i + 1) bt.1 bt.2 else some (bt.1, bt.2)) (fun k => ?_) ?_
  ·simp only [impl_common.l0, w64 (x := i + 1) (show -9223372036854775808 ≤ i + 1 by omega) (by omega), hx, hu]
   rw [if_pos (by omega), if_pos h0, if_pos (by omega), w64 (x := x.f0 * x.f1) (by omega) (by omega), w64 (x := s + x.f0 * x.f1) (by omega) (by omega), w64 (x := a + x.f0) (by omega) (by omega)]
   congr 1
   funext bt
   rw [if_pos (by omega), if_pos (by omega)]
  ·refine Ev.bind hr ?_
   unfold lev impl_Ratio_isLess.f
   rw [Int.mul_one, w64 (x := u.f1 * (low (s + x.f0 * x.f1) (a + x.f0)).2) (by omega) (by omega), w64 (x := (low (s + x.f0 * x.f1) (a + x.f0)).1) (by omega) (by omega)]
   simp only [Option.bind_some]
   by_cases hc : s + x.f0 * x.f1 ≤ (a + x.f0) * u.f1
   ·rw [if_pos hc]
    exact Ev.ifF (by rw [decide_eq_true_eq, hlt]; omega) (Ev.now _)
   ·rw [if_neg hc]
    exact Ev.ifT (by rw [decide_eq_true_eq, hlt]; omega) (hi2 _ _)
/-- the common level -/
def comm (X : List S63) : Int × Int := lev (wsum X) 0 (X.foldl (fun acc t => insR t acc) [])
theorem leCommon_ev (X : List S63) (h1 : 1 ≤ X.length) (hX : X.length ≤ 12) (ok : okT X) : Ev (fun k => spec_leCommon.f k X) (comm X) := by
 obtain ⟨ord, e1, e2, e3, _, e5⟩ := order_ev X (by omega) X.length 0 [] (by omega) (by omega) rfl (by simp)
 have hw := wsum_le ok
 unfold spec_leCommon.f spec_leOrder.f
 refine Ev.bind e1 ?_
 have key : ∀ (m : Nat) (i s : Int), 0 ≤ i → (X.length : Int) - i = m → 0 ≤ s → s ≤ 10000 * i → s + wsum (X.drop i.toNat) = wsum X → Ev (fun k => spec_leCommon.l0 k X ord s X (X.length : Int) i) (comm X) := by
  intro m
  induction m with
  | zero =>
   intro i s h0 hm hs0 hs1 hs2
   rw [List.drop_eq_nil_of_le (by omega)] at hs2
   have hs3 : s = wsum X := by simpa [wsum] using hs2
   have h := specLev_ev X (by omega) ok ord e2 s (by omega) (by omega) (by omega) (ord.length - 1) 0 0 0 (by omega) (by omega) (by omega) (by omega) (by omega) (by omega)
   refine Ev.step (f := fun k => spec_leCommon.l1 k X ord s 0 0 ord (ord.length : Int) 0) (fun k => by simp only [spec_leCommon.l0]; rw [if_neg (by omega)]) ?_
   unfold comm
   rw [← hs3, ← (fold_eq X [] (by simp [srt])).1]
   simp only [Int.add_zero, Int.toNat_zero, List.drop_zero, List.map_nil] at h e5
   rw [← e5]
   exact h
  | succ m ih =>
   intro i s h0 hm hs0 hs1 hs2
   have hk := ok _ (rdT_mem h0 (show i < X.length by omega))
   rw [rdT_drop h0 (by omega)] at hs2
   have hs3 : s + ((rd_T63 X i).f2 + wsum (X.drop (i + 1).toNat)) = wsum X := by simpa [wsum] using hs2
   refine Ev.step (f := fun k => spec_leCommon.l0 k X ord (s + (rd_T63 X i).f2) X (X.length : Int) (i + 1)) (fun k => ?_) (ih (i + 1) _ (by omega) (by omega) (by omega) (by omega) (by omega))
   simp only [spec_leCommon.l0]
   rw [if_pos (by omega), if_pos h0, if_pos (by omega), w64 (x := i + 1) (by omega) (by omega), w64 (by omega) (by omega)]
 exact key X.length 0 0 (by omega) (by omega) (by omega) (by omega) (by simp)
theorem common_ev2 (X : List S63) (h1 : 1 ≤ X.length) (hX : X.length ≤ 12) (ok : okT X) : Ev (fun k => impl_common.f k X) (comm X) := by
 have hw := wsum_le ok
 have hs := len_fold X []
 have hok : okT (sortT X) := by
  rw [sortT_eq X h1]
  intro x hx
  rcases mem_fold hx with h | h
  ·exact ok x h
  ·simp at h
 rw [← sortT_eq X h1] at hs
 simp only [List.length_nil, Nat.zero_add] at hs
 unfold impl_common.f impl_Tank_89.f
 rw [if_pos ⟨h1, hX⟩]
 refine Ev.now_ ?_
 refine Ev.bind (waterOf_ev X (by omega) ok) ?_
 have h := implLev_ev (sortT X) (by omega) hok ((sortT X).length - 1) 0 (wsum X) 0 0 0 (by omega) (by omega) (by omega) (by omega) (by omega) (by omega)
 unfold comm
 rw [← sortT_eq X h1]
 simpa using h
theorem snoc_len {α : Type} (p : List α) (x : α) : (p ++ [x]).length = p.length + 1 := by simp
/-- some tanks -/
def someM (X : List S63) (g : List Int) : List S63 := g.map (rd_T63 X)
theorem someM_len (X : List S63) (g : List Int) : (someM X g).length = g.length := by simp [someM]
theorem rd_at (pre : List Int) (x : Int) (rest : List Int) : rd (pre ++ x :: rest) (pre.length : Int) = x := by
 unfold rd
 rw [Int.toNat_natCast, List.getD_eq_getElem?_getD, List.getElem?_append_right (Nat.le_refl _), Nat.sub_self]
 rfl
theorem specSome_loop (X : List S63) : ∀ (rest pre : List Int) (acc : List S63), (∀ z ∈ rest, 0 ≤ z ∧ z < (X.length : Int)) → pre.length + rest.length ≤ 1000 → acc.length ≤ pre.length →
  Ev (fun k => spec_leSome.l0 k X acc (pre ++ rest) ((pre ++ rest).length : Int) (pre.length : Int)) (acc ++ someM X rest)
 | [], pre, acc, _, _, _ => by
  refine Ev.step (f := fun _ => some (acc ++ someM X [])) (fun k => ?_) (Ev.now _)
  simp only [spec_leSome.l0]
  rw [if_neg (by simp)]
  simp [someM]
 | z :: rest, pre, acc, hz, hl, ha => by
  have h0 := hz z List.mem_cons_self
  simp only [List.length_cons] at hl
  have ih := specSome_loop X rest (pre ++ [z]) (acc ++ [rd_T63 X z]) (fun y hy => hz y (List.mem_cons_of_mem _ hy)) (by rw [List.length_append, List.length_singleton]; omega) (by simp only [List.length_append, List.length_singleton]; omega)
  rw [List.append_assoc, List.append_assoc, snoc_len pre z] at ih
  refine Ev.step (fun k => ?_) ih
  have hlen : (pre ++ z :: rest).length = pre.length + (rest.length + 1) := by rw [List.length_append, List.length_cons]
  simp only [spec_leSome.l0]
  rw [if_pos (by omega), if_pos (by omega), if_pos (by omega), rd_at, if_pos h0.1, if_pos h0.2, if_pos (by omega), w64 (x := (pre.length : Int) + 1) (by omega) (by omega)]
  rfl
theorem specSome_ev {X : List S63} {g : List Int} (hg : ∀ z ∈ g, 0 ≤ z ∧ z < (X.length : Int)) (hl : g.length ≤ 1000) : Ev (fun k => spec_leSome.f k X g) (someM X g) := by
 unfold spec_leSome.f
 exact specSome_loop X g [] [] hg (by simpa using hl) (by simp)
theorem implSome_loop (X : List S63) : ∀ (rest pre : List Int) (acc : List S63), (∀ z ∈ rest, 0 ≤ z ∧ z < (X.length : Int)) → pre.length + rest.length ≤ 1000 → acc.length ≤ pre.length →
  Ev (fun k => impl_someOf.l0 k X acc (pre ++ rest) ((pre ++ rest).length : Int) (pre.length : Int)) (acc ++ someM X rest)
 | [], pre, acc, _, _, _ => by
  refine Ev.step (f := fun _ => some (acc ++ someM X [])) (fun k => ?_) (Ev.now _)
  simp only [impl_someOf.l0]
  rw [if_neg (by simp)]
  simp [someM]
 | z :: rest, pre, acc, hz, hl, ha => by
  have h0 := hz z List.mem_cons_self
  simp only [List.length_cons] at hl
  have ih := implSome_loop X rest (pre ++ [z]) (acc ++ [rd_T63 X z]) (fun y hy => hz y (List.mem_cons_of_mem _ hy)) (by rw [List.length_append, List.length_singleton]; omega) (by simp only [List.length_append, List.length_singleton]; omega)
  rw [List.append_assoc, List.append_assoc, snoc_len pre z] at ih
  refine Ev.step (fun k => ?_) ih
  have hlen : (pre ++ z :: rest).length = pre.length + (rest.length + 1) := by rw [List.length_append, List.length_cons]
  simp only [impl_someOf.l0]
  rw [if_pos (by omega), if_pos (by omega), if_pos (by omega), rd_at, if_pos h0.1, if_pos h0.2, if_pos (by omega), w64 (x := (pre.length : Int) + 1) (by omega) (by omega)]
  rfl
theorem implSome_ev {X : List S63} {g : List Int} (hg : ∀ z ∈ g, 0 ≤ z ∧ z < (X.length : Int)) (hl : g.length ≤ 1000) : Ev (fun k => impl_someOf.f k X g) (someM X g) := by
 unfold impl_someOf.f
 exact implSome_loop X g [] [] hg (by simpa using hl) (by simp)
theorem someM_ok {X : List S63} {g : List Int} (hg : ∀ z ∈ g, 0 ≤ z ∧ z < (X.length : Int)) (ok : okT X) : okT (someM X g) := by
 intro x hx
 obtain ⟨z, hz, rfl⟩ := List.mem_map.1 hx
 have h := hg z hz
 exact ok _ (rdT_mem h.1 h.2)
/-- a group that some tanks may be -/
def okG (n : Nat) (g : List Int) : Prop := g ≠ [] ∧ g.length ≤ 6 ∧ ∀ z ∈ g, 0 ≤ z ∧ z < (n : Int)
theorem okG_len {n : Nat} {g : List Int} (h : okG n g) : 1 ≤ g.length := by
 cases g with
 | nil => exact absurd rfl h.1
 | cons x xs => simp
theorem groupsM_ok {X : List S63} {J : List (List Int)} (hg : goodT X = true) : ∀ g ∈ groupsM X.length J, okG X.length g := by
 intro g h
 have := goodT_len hg
 have hm := grpsP_mem h
 exact ⟨hm.1, by omega, hm.2.2⟩
theorem specComm_ev {X : List S63} {g : List Int} (ok : okT X) (h : okG X.length g) : Ev (fun k => spec_leCommon.f k (someM X g)) (comm (someM X g)) := leCommon_ev _ (by rw [someM_len]; exact okG_len h) (by rw [someM_len]; have := h.2.1; omega) (someM_ok h.2.2 ok)
theorem implComm_ev {X : List S63} {g : List Int} (ok : okT X) (h : okG X.length g) : Ev (fun k => impl_common.f k (someM X g)) (comm (someM X g)) := common_ev2 _ (by rw [someM_len]; exact okG_len h) (by rw [someM_len]; have := h.2.1; omega) (someM_ok h.2.2 ok)
theorem markIntS_ev (l : List Int) (q : Int) (hq0 : 0 ≤ q) (hq1 : q ≤ 100000000) (hl : l.length ≤ 1048576) : Ev (fun k => laws_markIntS.f k l q) (q + (l.length : Int), marks q l.length) := by
 refine mark_ev (l0 := laws_markIntS.l0) (fun k x q i h0 => ?_) q hq0 (by omega) l (by omega)
 simp only [laws_markIntS.l0, if_pos h0]
/-- ascending numbers in rows of rows -/
def totLen : List (List Int) → Nat
 | [] => 0
 | x :: xs => x.length + totLen xs
theorem rows_at (pre : List (List Int)) (x : List Int) (rest : List (List Int)) : rd_L4 (pre ++ x :: rest) (pre.length : Int) = x := by
 unfold rd_L4
 rw [Int.toNat_natCast, List.getD_eq_getElem?_getD, List.getElem?_append_right (Nat.le_refl _), Nat.sub_self]
 rfl
theorem rows_le {l : List (List Int)} {n : Nat} (h : ∀ y ∈ l, y.length ≤ n) (j : Int) (h0 : 0 ≤ j) (h1 : j < (l.length : Int)) : (rd_L4 l j).length ≤ n := by
 have hj : j.toNat < l.length := by omega
 unfold rd_L4
 rw [List.getD_eq_getElem?_getD, List.getElem?_eq_getElem hj]
 exact h _ (List.getElem_mem hj)
def marksSS (q : Int) : List (List Int) → List (List Int)
 | [] => []
 | x :: xs => marks q x.length :: marksSS (q + (x.length : Int)) xs
theorem markIntSS_loop : ∀ (rest pre : List (List Int)) (q : Int), 0 ≤ q → totLen rest ≤ 1048576 → q + (totLen rest : Int) ≤ 100000000 → pre.length + rest.length ≤ 1048576 → Ev (fun k => laws_markIntSS.l0 k (pre ++ rest) q (pre.length : Int)) (q + (totLen rest : Int), pre ++ marksSS q rest)
 | [], pre, q, h0, h1, h3, h2 => by
  refine Ev.step (f := fun _ => some (q, pre ++ [])) (fun k => by simp only [laws_markIntSS.l0]; rw [if_neg (by simp)]) ?_
  have : q + ((totLen ([] : List (List Int)) : Nat) : Int) = q := by simp [totLen]
  rw [this]
  exact Ev.now _
 | x :: rest, pre, q, h0, h1, h3, h2 => by
  simp only [totLen, List.length_cons] at h1 h2 h3
  have ih := markIntSS_loop rest (pre ++ [marks q x.length]) (q + (x.length : Int)) (by omega) (by omega) (by omega) (by rw [List.length_append, List.length_singleton]; omega)
  refine Ev.step (f := fun k => (laws_markIntS.f k x q).bind fun bt => laws_markIntSS.l0 k ((pre ++ x :: rest).set pre.length bt.2) bt.1 ((pre.length + 1 : Nat) : Int)) (fun k => ?_) ?_
  ·simp only [laws_markIntSS.l0]
   rw [if_pos (by rw [List.length_append, List.length_cons]; omega), if_pos (by omega), rows_at, w64 (x := (pre.length : Int) + 1) (by omega) (by omega), Int.toNat_natCast]
   rfl
  ·refine Ev.bind (markIntS_ev x q (by omega) (by omega) (by omega)) ?_
   dsimp only
   rw [List.append_assoc, List.length_append, List.length_singleton] at ih
   rw [List.set_append_right _ _ (Nat.le_refl _), Nat.sub_self, List.set_cons_zero, show q + ((totLen (x :: rest) : Nat) : Int) = q + (x.length : Int) + (totLen rest : Int) by simp only [totLen]; omega]
   have e : pre ++ marksSS q (x :: rest) = pre ++ [marks q x.length] ++ marksSS (q + (x.length : Int)) rest := by simp [marksSS]
   rw [e]
   exact ih
/-- the size of rows of rows -/
theorem szIntSS_tot_loop : ∀ (rest pre : List (List Int)) (a : Int), (∀ y ∈ rest, y.length ≤ 9223372036854775807) → 0 ≤ a → a ≤ 1048576 → pre.length + rest.length ≤ 1048576 → ∃ s, Ev (fun k => laws_szIntSS.l0 k (pre ++ rest) a (pre.length : Int)) s ∧ (s < 0 ∨ (totLen rest : Int) ≤ a)
 | [], pre, a, _, h0, h1, h2 => ⟨a, Ev.step (f := fun _ => some a) (fun k => by simp only [laws_szIntSS.l0]; rw [if_neg (by simp)]) (Ev.now _), .inr (by simp only [totLen]; omega)⟩
 | x :: rest, pre, a, hy, h0, h1, h2 => by
  simp only [List.length_cons] at h2
  have hv := szIntS_val x a (hy x List.mem_cons_self) h0 h1
  by_cases hn : a - (x.length : Int) < 0
  ·rw [if_pos hn] at hv
   refine ⟨-1, Ev.step (f := fun _ => some (-1)) (fun k => ?_) (Ev.now _), .inl (by omega)⟩
   simp only [laws_szIntSS.l0]
   rw [if_pos (by rw [List.length_append, List.length_cons]; omega), if_pos (by omega), rows_at, hv, Option.bind_some, if_pos (by omega)]
  ·rw [if_neg hn] at hv
   obtain ⟨s, k1, k2⟩ := szIntSS_tot_loop rest (pre ++ [x]) (a - (x.length : Int)) (fun y h => hy y (List.mem_cons_of_mem _ h)) (by omega) (by omega) (by rw [List.length_append, List.length_singleton]; omega)
   rw [List.append_assoc, List.length_append, List.length_singleton] at k1
   refine ⟨s, Ev.step (f := fun k => laws_szIntSS.l0 k (pre ++ x :: rest) (a - (x.length : Int)) ((pre.length + 1 : Nat) : Int)) (fun k => ?_) k1, k2.imp id (fun h => by simp only [totLen]; omega)⟩
   simp only [laws_szIntSS.l0]
   rw [if_pos (by rw [List.length_append, List.length_cons]; omega), if_pos (by omega), rows_at, hv, Option.bind_some, if_neg hn, w64 (x := (pre.length : Int) + 1) (by omega) (by omega)]
   rfl
theorem szIntSS_tot (l : List (List Int)) (a : Int) (hl0 : l.length ≤ 9223372036854775807) (hy : ∀ y ∈ l, y.length ≤ 9223372036854775807) (ha0 : 0 ≤ a) (ha1 : a ≤ 1048576) :
  ∃ s, Ev (fun k => laws_szIntSS.f k l a) s ∧ (s < 0 ∨ (l.length ≤ 1048576 ∧ totLen l ≤ 1048576)) := by
 unfold laws_szIntSS.f
 rw [w64 (x := a - (l.length : Int)) (by omega) (by omega)]
 by_cases hn : a - (l.length : Int) < 0
 ·exact ⟨-1, Ev.ifT hn (Ev.now _), .inl (by omega)⟩
 ·obtain ⟨s, k1, k2⟩ := szIntSS_tot_loop l [] (a - (l.length : Int)) hy (by omega) (by omega) (by simp; omega)
  exact ⟨s, Ev.ifF hn k1, k2.imp id (fun k3 => ⟨by omega, by omega⟩)⟩
theorem totLen_row {l : List (List Int)} {y : List Int} (h : y ∈ l) : y.length ≤ totLen l := by
 induction l with
 | nil => cases h
 | cons x xs ih =>
  simp only [totLen]
  rcases List.mem_cons.1 h with rfl | h
  ·omega
  ·have := ih h; omega
/-- ascending numbers in tanks -/
def nextM (x : List S63) (q i : Int) : List S63 :=
 let y := x.set i.toNat ⟨q, (rd_T63 x i).f1, (rd_T63 x i).f2⟩
 let z := y.set i.toNat ⟨(rd_T63 y i).f0, q + 1, (rd_T63 y i).f2⟩
 z.set i.toNat ⟨(rd_T63 z i).f0, (rd_T63 z i).f1, q + 1 + 1⟩
theorem markTankS_ev (l : List S63) (hl : l.length ≤ 1048576) : ∃ y : List S63, Ev (fun k => laws_markTankS.f k l 1) (1 + 3 * (l.length : Int), y) := by
 have key : ∀ (m : Nat) (x : List S63) (i : Int), x.length = l.length → 0 ≤ i → (l.length : Int) - i = m → ∃ y : List S63, Ev (fun k => laws_markTankS.l0 k x (1 + 3 * i) i) (1 + 3 * (l.length : Int), y) := by
  intro m
  induction m with
  | zero =>
   intro x i hx h0 hm
   refine ⟨x, Ev.step (f := fun _ => some (1 + 3 * i, x)) (fun k => by simp only [laws_markTankS.l0]; rw [if_neg (by omega)]) ?_⟩
   rw [show 1 + 3 * i = 1 + 3 * (l.length : Int) by omega]
   exact Ev.now _
  | succ m ih =>
   intro x i hx h0 hm
   obtain ⟨y, h⟩ := ih (nextM x (1 + 3 * i) i) (i + 1) (by unfold nextM; simp only [List.length_set]; exact hx) (by omega) (by omega)
   refine ⟨y, Ev.step (fun k => ?_) h⟩
   simp only [laws_markTankS.l0, Option.bind_some]
   rw [if_pos (by omega), if_pos h0, w64 (x := 1 + 3 * i + 1) (by omega) (by omega), w64 (x := 1 + 3 * i + 1 + 1) (by omega) (by omega), w64 (x := 1 + 3 * i + 1 + 1 + 1) (by omega) (by omega), w64 (x := i + 1) (by omega) (by omega), show 1 + 3 * i + 1 + 1 + 1 = 1 + 3 * (i + 1) by omega]
   rfl
 have := key l.length l 0 rfl (by omega) (by omega)
 rw [Int.mul_zero, Int.add_zero] at this
 exact this
theorem eqRatioS_ev (l : List S44) (hl : l.length ≤ 1048576) : Ev (fun k => laws_eqRatioS.f k l l) true := by
 refine Ev.congr (fun k => ?_) (same_ev (l0 := laws_eqRatioS.l0) (fun k x i => by simp only [laws_eqRatioS.l0, laws_eqRatio.f, if_true, Option.bind_some]) l (by omega))
 show laws_eqRatioS.f k l l = _
 unfold laws_eqRatioS.f
 rw [if_pos rfl]
/-- ascending numbers in ratios -/
def marksR (q : Int) (n : Nat) : List S44 := (List.range n).map fun (j : Nat) => ⟨q + 2 * (j : Int), q + 2 * (j : Int) + 1⟩
theorem marksR_length (q : Int) (n : Nat) : (marksR q n).length = n := by simp [marksR]
theorem marksR_get (q : Int) (n : Nat) {i : Int} (h0 : 0 ≤ i) (h1 : i < n) : rd_T44 (marksR q n) i = ⟨q + 2 * i, q + 2 * i + 1⟩ := by
 unfold rd_T44
 rw [getD_eq z44 (by rw [marksR_length]; omega)]
 simp [marksR, Int.toNat_of_nonneg h0]
theorem markRatioS_ev (l : List S44) (q : Int) (hq0 : 0 ≤ q) (hq1 : q ≤ 100000000) (hl : l.length ≤ 1048576) : Ev (fun k => laws_markRatioS.f k l q) (q + 2 * (l.length : Int), marksR q l.length) := by
 have key : ∀ (m : Nat) (x : List S44) (i : Int), x.length = l.length → 0 ≤ i → (l.length : Int) - i = m → (∀ j : Nat, j < i.toNat → x[j]? = (marksR q l.length)[j]?) → Ev (fun k => laws_markRatioS.l0 k x (q + 2 * i) i) (q + 2 * (l.length : Int), marksR q l.length) := by
  intro m
  induction m with
  | zero =>
   intro x i hx h0 hm hj
   refine Ev.step (f := fun _ => some (q + 2 * i, x)) (fun k => by simp only [laws_markRatioS.l0]; rw [if_neg (by omega)]) ?_
   have e1 : q + 2 * i = q + 2 * (l.length : Int) := by omega
   have e2 : x = marksR q l.length := by
    apply List.ext_getElem?
    intro j
    by_cases h : j < l.length
    ·exact hj j (by omega)
    ·rw [List.getElem?_eq_none (by omega), List.getElem?_eq_none (by rw [marksR_length]; omega)]
   rw [e1, e2]
   exact Ev.now _
  | succ m ih =>
   intro x i hx h0 hm hj
   have hi : i.toNat < x.length := by omega
   refine Ev.step (f := fun k => laws_markRatioS.l0 k (x.set i.toNat ⟨q + 2 * i, q + 2 * i + 1⟩) (q + 2 * (i + 1)) (i + 1)) (fun k => ?_) (ih _ (i + 1) (by rw [List.length_set]; exact hx) (by omega) (by omega) (fun j hlt => ?_))
   ·simp only [laws_markRatioS.l0, Option.bind_some]
    rw [if_pos (by omega), if_pos h0, w64 (x := q + 2 * i + 1) (by omega) (by omega), w64 (x := q + 2 * i + 1 + 1) (by omega) (by omega), w64 (x := i + 1) (by omega) (by omega)]
    rw [List.set_set]
    rw [show (rd_T44 (x.set i.toNat ⟨q + 2 * i, (rd_T44 x i).f1⟩) i).f0 = q + 2 * i from by
     unfold rd_T44
     rw [getD_eq z44 (by rw [List.length_set]; exact hi), List.getElem_set_self]]
    congr 1
    omega
   ·by_cases e : j = i.toNat
    ·subst e
     rw [List.getElem?_set_self hi]
     simp only [marksR, List.getElem?_map, List.getElem?_range (show i.toNat < l.length by omega), Option.map_some, Int.toNat_of_nonneg h0]
    ·rw [List.getElem?_set_ne (fun e' => e e'.symm)]
     exact hj j (by omega)
 have := key l.length l 0 rfl (by omega) (by omega) (fun j hj => absurd hj (by simp))
 rw [Int.mul_zero, Int.add_zero] at this
 exact this
theorem heldRatioS_ev (q : Int) (n : Nat) (hq0 : 0 ≤ q) (hq1 : q ≤ 100000000) (hl : n ≤ 1048576) : Ev (fun k => laws_heldRatioS.f k (marksR q n) q) (q + 2 * (n : Int)) := by
 have key : ∀ (m : Nat) (i : Int), 0 ≤ i → (n : Int) - i = m → Ev (fun k => laws_heldRatioS.l0 k (marksR q n) (q + 2 * i) i) (q + 2 * (n : Int)) := by
  intro m
  induction m with
  | zero =>
   intro i h0 hm
   refine Ev.step (f := fun _ => some (q + 2 * i)) (fun k => by simp only [laws_heldRatioS.l0]; rw [if_neg (by rw [marksR_length]; omega)]) ?_
   rw [show q + 2 * i = q + 2 * (n : Int) by omega]
   exact Ev.now _
  | succ m ih =>
   intro i h0 hm
   refine Ev.step (f := fun k => laws_heldRatioS.l0 k (marksR q n) (q + 2 * (i + 1)) (i + 1)) (fun k => ?_) (ih (i + 1) (by omega) (by omega))
   simp only [laws_heldRatioS.l0]
   rw [marksR_get q n h0 (by omega), if_pos (by rw [marksR_length]; omega), if_pos h0, if_pos rfl, w64 (x := q + 2 * i + 1) (by omega) (by omega), if_pos rfl, w64 (x := q + 2 * i + 1 + 1) (by omega) (by omega), w64 (x := i + 1) (by omega) (by omega)]
   congr 1
   omega
 have := key n 0 (by omega) (by omega)
 rw [Int.mul_zero, Int.add_zero] at this
 exact this
/-- the level of a group -/
def levG (X : List S63) (g : List Int) : S44 := ⟨(comm (someM X g)).1, (comm (someM X g)).2⟩
theorem specLevels_loop {X : List S63} (ok : okT X) : ∀ (rest pre : List (List Int)) (acc : List S44), (∀ g ∈ rest, okG X.length g) → pre.length + rest.length ≤ 1000 → acc.length ≤ pre.length →
  Ev (fun k => spec_GroupLevels.l0 k X acc (pre ++ rest) ((pre ++ rest).length : Int) (pre.length : Int)) (acc ++ rest.map (levG X), true)
 | [], pre, acc, _, _, _ => by
  refine Ev.step (f := fun _ => some (acc ++ [].map (levG X), true)) (fun k => ?_) (Ev.now _)
  simp only [spec_GroupLevels.l0]
  rw [if_neg (by simp)]
  simp
 | g :: rest, pre, acc, hg, hl, ha => by
  have h := hg g List.mem_cons_self
  simp only [List.length_cons] at hl
  have ih := specLevels_loop ok rest (pre ++ [g]) (acc ++ [levG X g]) (fun y hy => hg y (List.mem_cons_of_mem _ hy)) (by rw [List.length_append, List.length_singleton]; omega) (by simp only [List.length_append, List.length_singleton]; omega)
  rw [List.append_assoc, List.append_assoc, snoc_len pre g] at ih
  have hlen : (pre ++ g :: rest).length = pre.length + (rest.length + 1) := by rw [List.length_append, List.length_cons]
  refine Ev.step (f := fun k => (spec_leSome.f k X g).bind fun t => (spec_leCommon.f k t).bind fun bt => spec_GroupLevels.l0 k X (acc ++ [(⟨bt.1, bt.2⟩ : S44)]) (pre ++ g :: rest) ((pre ++ g :: rest).length : Int) ((pre.length + 1 : Nat) : Int)) (fun k => ?_) ?_
  ·simp only [spec_GroupLevels.l0]
   rw [if_pos (by omega), if_pos (by omega), if_pos (by omega), rows_at3, w64 (x := (pre.length : Int) + 1) (by omega) (by omega)]
   congr 1
   funext t
   congr 1
   funext bt
   rw [if_pos (by omega)]
   rfl
  ·exact Ev.bind (specSome_ev h.2.2 (by have := h.2.1; omega)) (Ev.bind (specComm_ev ok h) ih)
theorem implLevels_loop {X : List S63} (ok : okT X) : ∀ (rest pre : List (List Int)) (acc : List S44), (∀ g ∈ rest, okG X.length g) → pre.length + rest.length ≤ 1000 → acc.length ≤ pre.length →
  Ev (fun k => impl_GroupLevels.l0 k X acc (pre ++ rest) ((pre ++ rest).length : Int) (pre.length : Int)) (acc ++ rest.map (levG X), true)
 | [], pre, acc, _, _, _ => by
  refine Ev.step (f := fun _ => some (acc ++ [].map (levG X), true)) (fun k => ?_) (Ev.now _)
  simp only [impl_GroupLevels.l0]
  rw [if_neg (by simp)]
  simp
 | g :: rest, pre, acc, hg, hl, ha => by
  have h := hg g List.mem_cons_self
  simp only [List.length_cons] at hl
  have ih := implLevels_loop ok rest (pre ++ [g]) (acc ++ [levG X g]) (fun y hy => hg y (List.mem_cons_of_mem _ hy)) (by rw [List.length_append, List.length_singleton]; omega) (by simp only [List.length_append, List.length_singleton]; omega)
  rw [List.append_assoc, List.append_assoc, snoc_len pre g] at ih
  have hlen : (pre ++ g :: rest).length = pre.length + (rest.length + 1) := by rw [List.length_append, List.length_cons]
  refine Ev.step (f := fun k => (impl_someOf.f k X g).bind fun t => (impl_common.f k t).bind fun bt => impl_GroupLevels.l0 k X (acc ++ [(⟨bt.1, bt.2⟩ : S44)]) (pre ++ g :: rest) ((pre ++ g :: rest).length : Int) ((pre.length + 1 : Nat) : Int)) (fun k => ?_) ?_
  ·simp only [impl_GroupLevels.l0]
   rw [if_pos (by omega), if_pos (by omega), if_pos (by omega), rows_at3, w64 (x := (pre.length : Int) + 1) (by omega) (by omega)]
   congr 1
   funext t
   congr 1
   funext bt
   rw [if_pos (by omega)]
   rfl
  ·exact Ev.bind (implSome_ev h.2.2 (by have := h.2.1; omega)) (Ev.bind (implComm_ev ok h) ih)
def levelsA (X : List S63) (J : List (List Int)) : List S44 × Bool := if (goodT X && goodJ X.length J) = true then ((groupsM X.length J).map (levG X), true) else ([], false)
theorem groupsM_len {X : List S63} {J : List (List Int)} (hg : goodT X = true) : (groupsM X.length J).length ≤ 6 := by
 have g := goodT_len hg
 have hp := grpsP_len X.length (gIter (jPairs J) X.length id)
 show (grpsP _ _).length ≤ 6
 omega
theorem specLevels_ev (X : List S63) (J : List (List Int)) (hl : X.length ≤ 1048576) (hJ : J.length ≤ 1048576) (hy : ∀ j : Int, 0 ≤ j → j < (J.length : Int) → (rd_L4 J j).length ≤ 1048576) : Ev (fun k => spec_GroupLevels.f k X J) (levelsA X J) := by
 unfold spec_GroupLevels.f levelsA
 refine Ev.bind (leJoined_ev X J hl hJ hy) ?_
 cases hc : (goodT X && goodJ X.length J) with
 | false => rw [if_neg (by decide)]; exact Ev.ifF (by decide) (Ev.now _)
 | true =>
  rw [if_pos rfl]
  simp only [Bool.and_eq_true] at hc
  have g := goodJ_ok hl hc.2
  have hn := groupsM_len (J := J) hc.1
  refine Ev.ifT rfl (Ev.bind (leGroups_ev hl (by omega) g.2) ?_)
  exact specLevels_loop (goodT_le hc.1).2.2 (groupsM X.length J) [] [] (groupsM_ok hc.1) (by simp only [List.length_nil]; omega) (by simp)
theorem implLevels_ev (X : List S63) (J : List (List Int)) (hl : X.length ≤ 1048576) (hJ : J.length ≤ 1048576) : Ev (fun k => impl_GroupLevels.f k X J) (levelsA X J) := by
 unfold impl_GroupLevels.f levelsA
 refine Ev.bind (implGroupsOf_ev X J hl hJ) ?_
 unfold groupsA
 cases hc : (goodT X && goodJ X.length J) with
 | false => rw [if_neg (by decide), if_neg (by decide)]; exact Ev.ifF (by decide) (Ev.now _)
 | true =>
  rw [if_pos rfl, if_pos rfl]
  simp only [Bool.and_eq_true] at hc
  have hn := groupsM_len (J := J) hc.1
  refine Ev.ifT rfl ?_
  exact implLevels_loop (goodT_le hc.1).2.2 (groupsM X.length J) [] [] (groupsM_ok hc.1) (by simp only [List.length_nil]; omega) (by simp)
theorem levelsA_len (X : List S63) (J : List (List Int)) : (levelsA X J).1.length ≤ 6 := by
 unfold levelsA
 cases hc : (goodT X && goodJ X.length J) with
 | false => rw [if_neg (by decide)]; simp
 | true =>
  rw [if_pos rfl]
  simp only [Bool.and_eq_true] at hc
  dsimp only
  rw [List.length_map]
  exact groupsM_len hc.1
theorem FnExactGroupLevels : ∀ (l0 : (List S66)) (l1 : (List (List Int))), (l0.length ≤ maxLen ∧ ∀ y2 ∈ l0, ((Lit.int .i64 y2.f0).wf = true) ∧ ((Lit.int .i64 y2.f1).wf = true) ∧ ((Lit.int .i64 y2.f2).wf = true)) → (l1.length ≤ maxLen ∧ ∀ y2 ∈ l1, y2.length ≤ maxLen ∧ ∀ y2_ ∈ y2, (Lit.int .i64 y2_).wf = true) → ∃ k, laws_FnExactGroupLevels.f k l0 l1 = some true := by
 intro t l ht hl
 refine Ev.rounds (?_ : Ev (fun k => laws_FnExactGroupLevels.f k t l) true)
 have b1 := ht.1
 have b2 := hl.1
 simp only [maxLen] at b1 b2
 unfold laws_FnExactGroupLevels.f
 rw [szTankS_val t (by omega)]
 refine Ev.now_ ?_
 by_cases hn : (1048576 : Int) - (t.length : Int) < 0
 ·rw [if_pos hn]
  exact Ev.ifT (by decide) (Ev.now _)
 rw [if_neg hn]
 refine Ev.ifF hn ?_
 obtain ⟨s, k1, k2⟩ := szIntSS_tot l (1048576 - (t.length : Int)) (by omega) (fun y hy => by have := (hl.2 y hy).1; simp only [maxLen] at this; omega) (by omega) (by omega)
 refine Ev.bind k1 ?_
 by_cases hs : s < 0
 ·exact Ev.ifT hs (Ev.now _)
 refine Ev.ifF hs ?_
 obtain ⟨hl1, htot⟩ := k2.resolve_left hs
 have hrow : ∀ y ∈ l, y.length ≤ 1048576 := fun y hy => Nat.le_trans (totLen_row hy) htot
 have hy := rows_le hrow
 have hT1 : (toT t).length ≤ 1048576 := by rw [toT_length]; omega
 have hTT := toTankS_ev t (by omega)
 have hEE := eqTankS_ev (toT t) hT1
 obtain ⟨y, hM⟩ := markTankS_ev (toT t) hT1
 have hS := specLevels_ev (toT t) l hT1 hl1 hy
 have hI := implLevels_ev (toT t) l hT1 hl1
 have hR := levelsA_len (toT t) l
 generalize toT t = u at hTT hEE hM hS hI hR hT1
 generalize levelsA u l = r at hS hI hR
 obtain ⟨g, b⟩ := r
 dsimp only at hR
 refine Ev.bind hTT ?_
 refine Ev.bind (toIntSS_ev l hl1 hy) ?_
 refine Ev.bind hS ?_
 refine Ev.bind hI ?_
 refine Ev.bind (eqRatioS_ev g (by omega)) ?_
 refine Ev.ifT ⟨rfl, rfl⟩ ?_
 refine Ev.bind hEE ?_
 refine Ev.ifT rfl ?_
 refine Ev.bind (eqIntSS_ev l hl1 hy) ?_
 refine Ev.ifT rfl ?_
 refine Ev.bind hM ?_
 refine Ev.bind (markIntSS_loop l [] (1 + 3 * (u.length : Int)) (by omega) htot (by omega) (by simpa using hl1)) ?_
 refine Ev.ifF (by dsimp only; omega) ?_
 refine Ev.bind (markRatioS_ev g 1 (by omega) (by omega) (by omega)) ?_
 refine Ev.bind (heldRatioS_ev 1 g.length (by omega) (by omega) (by omega)) ?_
 refine Ev.ifF (by omega) ?_
 exact Ev.ifT rfl (Ev.now _)

end Go.Proofs.Ytedkbaadbnpkoaa.Pure

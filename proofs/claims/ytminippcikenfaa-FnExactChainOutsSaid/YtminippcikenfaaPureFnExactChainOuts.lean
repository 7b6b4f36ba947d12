/- The pure statement of the law FnExactChainOuts: what its printed functions compute is true for every input. No conditions. -/
import Derived.Test.YtminippcikenfaaPFnExactChainOutsx7
import Derived.Test.YtminippcikenfaaPl
namespace Go.Proofs.Ytminippcikenfaa.Pure
open Go.RowKit Go.Proofs.Ytminippcikenfaa.PFnExactChainOuts Go.Proofs.YtminippcikenfaaW.PrintWords Go.Proofs.YtminippcikenfaaW.PrintLast Go.Proofs.Ytminippcikenfaa.Pl
set_option linter.unusedVariables false
set_option linter.unusedSimpArgs false

theorem within_val (x a b : Int) : impl_within.f x a b = some (decide (a ≤ x ∧ x ≤ b)) := by
  unfold impl_within.f
  by_cases h : a ≤ x <;> simp [h]
theorem in_val (x a b : Int) : spec_l1In.f x a b = some (decide (a ≤ x ∧ x ≤ b)) := within_val x a b
/-- all elements lie in some bounds -/
def allIn (l : List Int) (a b : Int) : Bool := l.all fun x => decide (a ≤ x ∧ x ≤ b)
theorem areWithin_val (l : List Int) (a b : Int) : impl_areWithin.f l a b = some (allIn l a b) := by
  unfold impl_areWithin.f allIn
  congr 1
  rw [List.any_eq_not_all_not, Bool.not_not]
  congr 1
  funext x
  simp
theorem l1All_ev (l : List Int) (a b : Int) (hl : l.length ≤ 1048576) : Ev (fun k => spec_l1All.f k l a b) (allIn l a b) := by
  refine all_ev (l0 := fun k x i => spec_l1All.l0 k a b x (x.length : Int) i) 0 (fun x => decide (a ≤ x ∧ x ≤ b)) (fun k x i h0 => ?_) l (by omega)
  show spec_l1All.l0 (k + 1) a b x (x.length : Int) i = _
  simp only [spec_l1All.l0, in_val, Option.bind_some]
  by_cases hi : i < (x.length : Int)
  · rw [if_pos hi, if_pos h0, if_pos hi, if_pos hi]
    rfl
  · rw [if_neg hi, if_neg hi]
theorem toIntS_ev (l : List Int) (hl : l.length ≤ 1048576) : Ev (fun k => laws_toIntS.f k l) l := by
  refine Ev.congr (fun k => ?_) (copy_ev 0 (l0 := laws_toIntS.l0) (fun _ _ _ _ => rfl) l 0 (by omega))
  show laws_toIntS.f k l = _
  unfold laws_toIntS.f
  rw [if_pos (by omega), if_pos (by omega)]
theorem eqIntS_ev (l : List Int) (hl : l.length ≤ 1048576) : Ev (fun k => laws_eqIntS.f k l l) true := by
  refine Ev.congr (fun k => ?_) (same_ev (l0 := laws_eqIntS.l0) (fun k x i => by simp only [laws_eqIntS.l0, if_true]) l (by omega))
  show laws_eqIntS.f k l l = _
  unfold laws_eqIntS.f
  rw [if_pos rfl]
theorem eqIntSS_ev (l : List (List Int)) (hl : l.length ≤ 1048576) (hy : ∀ j : Int, 0 ≤ j → j < (l.length : Int) → (rd_L6 l j).length ≤ 1048576) : Ev (fun k => laws_eqIntSS.f k l l) true := by
  have key : ∀ (m : Nat) (i : Int), 0 ≤ i → (l.length : Int) - i = m → Ev (fun k => laws_eqIntSS.l0 k l l i) true := by
    intro m
    induction m with
    | zero =>
      intro i h0 hm
      exact Ev.step (f := fun _ => some true) (fun k => by simp only [laws_eqIntSS.l0]; rw [if_neg (by omega)]) (Ev.now _)
    | succ m ih =>
      intro i h0 hm
      refine Ev.step (f := fun k => (laws_eqIntS.f k (rd_L6 l i) (rd_L6 l i)).bind fun t => if t = true then laws_eqIntSS.l0 k l l (i + 1) else some false) (fun k => ?_) ?_
      · simp only [laws_eqIntSS.l0]
        rw [if_pos (by omega), if_pos h0, if_pos (by omega), w64 (x := i + 1) (by omega) (by omega)]
      · refine Ev.bind (eqIntS_ev _ (hy i h0 (by omega))) ?_
        exact Ev.ifT rfl (ih (i + 1) (by omega) (by omega))
  unfold laws_eqIntSS.f
  exact Ev.ifT rfl (key l.length 0 (by omega) (by omega))
/-- a siphon's own bounds -/
def goodS (s l st f : Int) : Bool := decide (1 ≤ s ∧ s ≤ 60) && (decide (0 ≤ l ∧ l < st ∧ st ≤ s) && decide (1 ≤ f ∧ f ≤ 60))
theorem goodS_le {s l st f : Int} (h : goodS s l st f = true) : (1 ≤ s ∧ s ≤ 60) ∧ (0 ≤ l ∧ l < st ∧ st ≤ s) ∧ (1 ≤ f ∧ f ≤ 60) := by
  unfold goodS at h
  simpa using h
theorem siGood_val (s l st f : Int) : spec_siGood.f s l st f = some (goodS s l st f) := by
  unfold spec_siGood.f goodS
  simp only [in_val, Option.bind_some]
  by_cases h0 : 1 ≤ s ∧ s ≤ 60
  · rw [decide_eq_true h0, if_pos rfl]
    rw [w64 (x := s - 1) (by omega) (by omega)]
    by_cases h1 : 0 ≤ l ∧ l ≤ s - 1
    · rw [decide_eq_true h1, if_pos rfl, w64 (x := l + 1) (by omega) (by omega)]
      by_cases h2 : l + 1 ≤ st ∧ st ≤ s
      · rw [decide_eq_true h2, if_pos rfl, decide_eq_true (show 0 ≤ l ∧ l < st ∧ st ≤ s by omega)]
        simp
      · rw [decide_eq_false h2, if_neg (by decide), decide_eq_false (show ¬ (0 ≤ l ∧ l < st ∧ st ≤ s) by omega)]
        simp
    · rw [decide_eq_false h1, if_neg (by decide), decide_eq_false (show ¬ (0 ≤ l ∧ l < st ∧ st ≤ s) by omega)]
      simp
  · rw [decide_eq_false h0, if_neg (by decide)]
    simp
theorem isSiphon_val (s l st f : Int) : impl_IsSiphon.f s l st f = some (goodS s l st f) := by
  unfold impl_IsSiphon.f goodS
  simp only [within_val, Option.bind_some]
  by_cases h0 : 1 ≤ s ∧ s ≤ 60
  · rw [decide_eq_true h0, if_pos rfl]
    by_cases h1 : l ≥ 0
    · rw [if_pos h1]
      by_cases h2 : l < st
      · rw [if_pos h2]
        by_cases h3 : st ≤ s
        · rw [if_pos h3, decide_eq_true (show 0 ≤ l ∧ l < st ∧ st ≤ s by omega)]
          simp
        · rw [if_neg h3, decide_eq_false (show ¬ (0 ≤ l ∧ l < st ∧ st ≤ s) by omega)]
          simp
      · rw [if_neg h2, decide_eq_false (show ¬ (0 ≤ l ∧ l < st ∧ st ≤ s) by omega)]
        simp
    · rw [if_neg h1, decide_eq_false (show ¬ (0 ≤ l ∧ l < st ∧ st ≤ s) by omega)]
      simp
  · rw [decide_eq_false h0, if_neg (by decide)]
    simp
def goodL (s l st f h : Int) : Bool := goodS s l st f && decide (0 ≤ h ∧ h ≤ s)
/-- level and inflows are right -/
def asked (s l st f h : Int) (x : List Int) : Bool := goodL s l st f h && (decide (x.length ≤ 100) && allIn x 0 60)
theorem asked_le {s l st f h : Int} {x : List Int} (g : asked s l st f h x = true) : goodS s l st f = true ∧ (0 ≤ h ∧ h ≤ s) ∧ x.length ≤ 100 ∧ ∀ i, 0 ≤ i → i < (x.length : Int) → 0 ≤ rd x i ∧ rd x i ≤ 60 := by
  unfold asked goodL allIn at g
  simp only [Bool.and_eq_true, decide_eq_true_eq, List.all_eq_true] at g
  obtain ⟨⟨g1, g2⟩, g3, g4⟩ := g
  refine ⟨g1, g2, g3, fun i h0 h1 => ?_⟩
  have hj : i.toNat < x.length := by omega
  exact g4 (rd x i) (by unfold rd; rw [getD_eq 0 hj]; exact List.getElem_mem hj)
theorem areInflows_val (x : List Int) : impl_areInflows.f x = some (decide (x.length ≤ 100) && allIn x 0 60) := by
  unfold impl_areInflows.f
  rw [areWithin_val]
  by_cases h1 : x.length ≤ 100
  · rw [if_pos (by omega), decide_eq_true h1]; simp
  · rw [if_neg (by omega), decide_eq_false h1]; simp
/-- one tick, behind what is spilt -/
def tick1 (l f h2 sp : Int) (r : Bool) : Int × Bool × Int × Int :=
  if r = true then (h2 - (if h2 - l > 0 then (if f < h2 - l then f else h2 - l) else 0), decide (h2 - (if h2 - l > 0 then (if f < h2 - l then f else h2 - l) else 0) > l), (if h2 - l > 0 then (if f < h2 - l then f else h2 - l) else 0), sp)
  else (h2, false, 0, sp)
def tickM (s l st f h : Int) (r : Bool) (x : Int) : Int × Bool × Int × Int :=
  tick1 l f (if h + x > s then s else h + x) (if h + x > s then h + x - s else 0) (r || decide ((if h + x > s then s else h + x) ≥ st))
theorem tick1_le {s l f h2 sp : Int} {r : Bool} (hl : 0 ≤ l ∧ l ≤ 60) (hf : 1 ≤ f ∧ f ≤ 60) (h0 : 0 ≤ h2) (h1 : h2 ≤ s) : 0 ≤ (tick1 l f h2 sp r).1 ∧ (tick1 l f h2 sp r).1 ≤ s := by
  unfold tick1
  cases r with
  | true =>
    rw [if_pos rfl]
    dsimp only
    (repeat' split) <;> omega
  | false =>
    rw [if_neg (by decide)]
    exact ⟨h0, h1⟩
theorem tickM_le {s l st f h x : Int} {r : Bool} (hg : goodS s l st f = true) (hh : 0 ≤ h ∧ h ≤ s) (hx : 0 ≤ x ∧ x ≤ 60) : 0 ≤ (tickM s l st f h r x).1 ∧ (tickM s l st f h r x).1 ≤ s := by
  have b := goodS_le hg
  unfold tickM
  apply tick1_le (by omega) b.2.2
  · split <;> omega
  · split <;> omega
theorem siTick_j1 {k : Nat} {s l st f h2 sp : Int} {r : Bool} (hl : 0 ≤ l ∧ l ≤ 60) (hf : 1 ≤ f ∧ f ≤ 60) (h0 : 0 ≤ h2) (h1 : h2 ≤ 60) : spec_siTick.j1 (k + 1) h2 sp r s l st f = some (tick1 l f h2 sp r) := by
  simp only [spec_siTick.j1, tick1]
  cases r with
  | false => rw [if_neg (by decide), if_neg (by decide)]
  | true =>
    rw [if_pos rfl, if_pos rfl]
    rw [w64 (x := h2 - l) (by omega) (by omega)]
    unfold spec_l1Most.f spec_l1Least.f
    by_cases c : h2 - l > 0
    · rw [if_pos c, Option.bind_some, if_pos c]
      by_cases e : f < h2 - l
      · rw [if_pos e, Option.bind_some, if_pos e, w64 (by omega) (by omega)]
      · rw [if_neg e, Option.bind_some, if_neg e, w64 (by omega) (by omega)]
    · rw [if_neg c, Option.bind_some, if_neg c, if_neg (by omega), Option.bind_some, w64 (by omega) (by omega)]
theorem siTick_ev {s l st f h x : Int} {r : Bool} (hg : goodS s l st f = true) (hh : 0 ≤ h ∧ h ≤ s) (hx : 0 ≤ x ∧ x ≤ 60) : ∀ k, 2 ≤ k → spec_siTick.f k s l st f h r x = some (tickM s l st f h r x) := by
  intro k hk
  obtain ⟨k, rfl⟩ : ∃ j, k = j + 2 := ⟨k - 2, by omega⟩
  have b := goodS_le hg
  unfold spec_siTick.f tickM
  rw [w64 (x := h + x) (by omega) (by omega)]
  by_cases c : h + x > s
  · rw [if_pos c, if_pos c, if_pos c, w64 (x := h + x - s) (by omega) (by omega)]
    simp only [spec_siTick.j0]
    cases r with
    | true => rw [if_pos rfl, siTick_j1 (by omega) b.2.2 (by omega) (by omega)]; rfl
    | false => rw [if_neg (by decide), siTick_j1 (by omega) b.2.2 (by omega) (by omega), Bool.false_or]
  · rw [if_neg c, if_neg c, if_neg c]
    simp only [spec_siTick.j0]
    cases r with
    | true => rw [if_pos rfl, siTick_j1 (by omega) b.2.2 (by omega) (by omega)]; rfl
    | false => rw [if_neg (by decide), siTick_j1 (by omega) b.2.2 (by omega) (by omega), Bool.false_or]
theorem implTick_val {s l st f h x : Int} {r : Bool} (hg : goodS s l st f = true) (hh : 0 ≤ h ∧ h ≤ s) (hx : 0 ≤ x ∧ x ≤ 60) : impl_Siphon_tick.f s l st f h r x = some (tickM s l st f h r x) := by
  have b := goodS_le hg
  obtain ⟨sp, hsp⟩ : ∃ q, (if h + x > s then h + x - s else 0) = q := ⟨_, rfl⟩
  obtain ⟨h2, hh2⟩ : ∃ q, (if h + x > s then s else h + x) = q := ⟨_, rfl⟩
  have e0 : mx 0 (wrap64 (wrap64 (h + x) - s)) = sp := by
    rw [w64 (x := h + x) (by omega) (by omega), w64 (x := h + x - s) (by omega) (by omega), ← hsp]
    unfold mx
    (repeat' split) <;> omega
  have e1 : wrap64 (wrap64 (h + x) - sp) = h2 := by
    rw [w64 (x := h + x) (by omega) (by omega), w64 (by rw [← hsp]; split <;> omega) (by rw [← hsp]; split <;> omega), ← hsp, ← hh2]
    (repeat' split) <;> omega
  have b2 : 0 ≤ h2 ∧ h2 ≤ 60 := by rw [← hh2]; split <;> omega
  obtain ⟨o, ho⟩ : ∃ q, (if h2 - l > 0 then (if f < h2 - l then f else h2 - l) else 0) = q := ⟨_, rfl⟩
  have b3 : 0 ≤ o ∧ o ≤ 60 := by rw [← ho]; (repeat' split) <;> omega
  have e2 : mn f (mx 0 (wrap64 (h2 - l))) = o := by
    rw [w64 (x := h2 - l) (by omega) (by omega), ← ho]
    unfold mn mx
    (repeat' split) <;> omega
  have e3 : wrap64 (h2 - o) = h2 - o := w64 (by omega) (by omega)
  unfold impl_Siphon_tick.f tickM tick1
  rw [e0, e1, e2, e3, hh2, hsp, ho]
  cases r with
  | true => rw [if_pos rfl, Bool.true_or, if_pos rfl]
  | false =>
    rw [if_neg (by decide), Bool.false_or]
    by_cases c : h2 ≥ st
    · rw [if_pos c, decide_eq_true c, if_pos rfl]
    · rw [if_neg c, decide_eq_false c, if_neg (by decide)]
/-- what a run has held, handed out and spilt so far -/
structure Run where
  h : Int
  r : Bool
  lv : List S31
  os : List Int
  sp : List Int
def stepR (s l st f : Int) (x : List Int) (i : Int) (σ : Run) : Run :=
  ⟨(tickM s l st f σ.h σ.r (rd x i)).1, (tickM s l st f σ.h σ.r (rd x i)).2.1, σ.lv ++ [⟨(tickM s l st f σ.h σ.r (rd x i)).1, (tickM s l st f σ.h σ.r (rd x i)).2.1⟩], σ.os ++ [(tickM s l st f σ.h σ.r (rd x i)).2.2.1], σ.sp ++ [(tickM s l st f σ.h σ.r (rd x i)).2.2.2]⟩
def runM (s l st f h : Int) (r : Bool) (x : List Int) : Run := foldFrom (stepR s l st f x) x.length 0 ⟨h, r, [⟨h, r⟩], [], []⟩
def okR (s : Int) (i : Int) (σ : Run) : Prop := (0 ≤ σ.h ∧ σ.h ≤ s) ∧ (σ.lv.length : Int) = i + 1 ∧ (σ.os.length : Int) = i ∧ (σ.sp.length : Int) = i
theorem okR_step {s l st f h : Int} {x : List Int} (g : asked s l st f h x = true) (i : Int) (σ : Run) (h0 : 0 ≤ i) (h1 : i < (x.length : Int)) (hσ : okR s i σ) : okR s (i + 1) (stepR s l st f x i σ) := by
  have a := asked_le g
  obtain ⟨c1, c2, c3, c4⟩ := hσ
  refine ⟨tickM_le a.1 c1 (a.2.2.2 i h0 h1), ?_, ?_, ?_⟩
  · simp only [stepR, List.length_append, List.length_cons, List.length_nil]; omega
  · simp only [stepR, List.length_append, List.length_cons, List.length_nil]; omega
  · simp only [stepR, List.length_append, List.length_cons, List.length_nil]; omega
def sumI (l : List Int) : Int := l.foldl (fun a b => wrap64 (a + b)) 0
theorem sumI_snoc (l : List Int) (a : Int) : sumI (l ++ [a]) = wrap64 (sumI l + a) := by
  unfold sumI
  rw [List.foldl_append]
  rfl
theorem siRun_ev {s l st f h : Int} {r : Bool} {x : List Int} (g : asked s l st f h x = true) : Ev (fun k => spec_siRun.f k s l st f h r x) ((runM s l st f h r x).os, (runM s l st f h r x).lv, sumI (runM s l st f h r x).sp) := by
  have a := asked_le g
  unfold spec_siRun.f
  have key := loop_then (σ := Run) (ρ := List Int × List S31 × Int) (f := stepR s l st f x) (I := okR s)
    (l0 := fun k i σ => spec_siRun.l0 (k + 2) σ.os σ.lv (sumI σ.sp) x (x.length : Int) i s l st f σ.h σ.r) (fin := fun _ σ => some (σ.os, σ.lv, sumI σ.sp)) (n := (x.length : Int))
    (r := ((runM s l st f h r x).os, (runM s l st f h r x).lv, sumI (runM s l st f h r x).sp)) (by omega) (okR_step g)
    (fun k i σ h0 h1 hσ => by
      show spec_siRun.l0 (k + 1 + 2) _ _ _ _ _ _ _ _ _ _ _ _ = _
      rw [show k + 1 + 2 = (k + 2) + 1 from rfl]
      simp only [spec_siRun.l0]
      obtain ⟨c1, c2, c3, c4⟩ := hσ
      rw [if_pos h1, if_pos h0, if_pos h1, siTick_ev a.1 c1 (a.2.2.2 i h0 h1) (k + 2) (by omega), Option.bind_some, if_pos (by omega), if_pos (by omega)]
      simp only [stepR, sumI_snoc])
    (fun k i σ hσ hz => by
      show spec_siRun.l0 (k + 1 + 2) _ _ _ _ _ _ _ _ _ _ _ _ = _
      rw [show k + 1 + 2 = (k + 2) + 1 from rfl]
      simp only [spec_siRun.l0]
      rw [if_neg hz]) x.length 0 ⟨h, r, [⟨h, r⟩], [], []⟩ (by omega) (by omega) ⟨a.2.1, by simp, by simp, by simp⟩ (Ev.now _)
  obtain ⟨K, hK⟩ := key
  refine ⟨K + 2, fun k hk => ?_⟩
  obtain ⟨j, rfl⟩ : ∃ j, k = j + 2 := ⟨k - 2, by omega⟩
  exact hK j (by omega)
theorem implRun_ev {s l st f h : Int} {r : Bool} {x : List Int} (g : asked s l st f h x = true) : Ev (fun k => impl_Siphon_run.f k s l st f h r x) ((runM s l st f h r x).lv, (runM s l st f h r x).os, (runM s l st f h r x).sp) := by
  have a := asked_le g
  unfold impl_Siphon_run.f
  exact loop_then (σ := Run) (ρ := List S31 × List Int × List Int) (f := stepR s l st f x) (I := okR s)
    (l0 := fun k i σ => impl_Siphon_run.l0 k x (x.length : Int) i s l st f σ.h σ.r σ.lv σ.os σ.sp) (fin := fun _ σ => some (σ.lv, σ.os, σ.sp)) (n := (x.length : Int))
    (r := ((runM s l st f h r x).lv, (runM s l st f h r x).os, (runM s l st f h r x).sp)) (by omega) (okR_step g)
    (fun k i σ h0 h1 hσ => by
      show impl_Siphon_run.l0 (k + 1) _ _ _ _ _ _ _ _ _ _ _ _ = _
      simp only [impl_Siphon_run.l0]
      obtain ⟨c1, c2, c3, c4⟩ := hσ
      rw [if_pos h1, if_pos h0, if_pos h1, implTick_val a.1 c1 (a.2.2.2 i h0 h1), Option.bind_some, Option.bind_some, if_pos (by simp only [List.length_cons, List.length_nil]; omega), Option.bind_some, if_pos (by simp only [List.length_cons, List.length_nil]; omega), Option.bind_some, if_pos (by simp only [List.length_cons, List.length_nil]; omega)]
      rfl)
    (fun k i σ hσ hz => by
      show impl_Siphon_run.l0 (k + 1) _ _ _ _ _ _ _ _ _ _ _ _ = _
      simp only [impl_Siphon_run.l0]
      rw [if_neg hz]) x.length 0 ⟨h, r, [⟨h, r⟩], [], []⟩ (by omega) (by omega) ⟨a.2.1, by simp, by simp, by simp⟩ (Ev.now _)
theorem runM_len {s l st f h : Int} {r : Bool} {x : List Int} (g : asked s l st f h x = true) : (runM s l st f h r x).lv.length = x.length + 1 ∧ (runM s l st f h r x).os.length = x.length ∧ (runM s l st f h r x).sp.length = x.length := by
  have a := asked_le g
  have key : ∀ (m : Nat) (i : Int) (σ : Run), 0 ≤ i → (x.length : Int) - i = m → okR s i σ → okR s (i + m) (foldFrom (stepR s l st f x) m i σ) := by
    intro m
    induction m with
    | zero => intro i σ h0 h1 hσ; simpa [foldFrom] using hσ
    | succ m ih =>
      intro i σ h0 h1 hσ
      have := ih (i + 1) (stepR s l st f x i σ) (by omega) (by omega) (okR_step g i σ h0 (by omega) hσ)
      rw [show i + 1 + (m : Int) = i + ((m + 1 : Nat) : Int) by omega] at this
      exact this
  have := key x.length 0 ⟨h, r, [⟨h, r⟩], [], []⟩ (by omega) (by omega) ⟨a.2.1, by simp, by simp, by simp⟩
  obtain ⟨_, c2, c3, c4⟩ := this
  unfold runM
  omega
theorem markIntS_ev (l : List Int) (q : Int) (hq0 : 0 ≤ q) (hq1 : q ≤ 100000000) (hl : l.length ≤ 1048576) : Ev (fun k => laws_markIntS.f k l q) (q + (l.length : Int), marks q l.length) := by
  refine mark_ev (l0 := laws_markIntS.l0) (fun k x q i h0 => ?_) q hq0 (by omega) l (by omega)
  simp only [laws_markIntS.l0, if_pos h0]
theorem heldIntS_ev (q : Int) (n : Nat) (hq0 : 0 ≤ q) (hq1 : q ≤ 100000000) (hl : n ≤ 1048576) : Ev (fun k => laws_heldIntS.f k (marks q n) q) (q + (n : Int)) := by
  refine held_ev (l0 := laws_heldIntS.l0) (fun k x q i h0 h1 h2 => ?_) (fun k x q i h1 => ?_) q hq0 (by omega) n (by omega)
  · simp only [laws_heldIntS.l0]
    rw [if_pos h1, if_pos h0, if_pos (show rd x i = q from h2)]
  · simp only [laws_heldIntS.l0]
    rw [if_neg h1]
/-- ascending numbers in rows of rows -/
def totLen : List (List Int) → Nat
  | [] => 0
  | x :: xs => x.length + totLen xs
def marksSS (q : Int) : List (List Int) → List (List Int)
  | [] => []
  | x :: xs => marks q x.length :: marksSS (q + (x.length : Int)) xs
theorem rows_at (pre : List (List Int)) (x : List Int) (rest : List (List Int)) : rd_L6 (pre ++ x :: rest) (pre.length : Int) = x := by
  unfold rd_L6
  rw [Int.toNat_natCast, List.getD_eq_getElem?_getD, List.getElem?_append_right (Nat.le_refl _), Nat.sub_self]
  rfl
theorem markIntSS_loop : ∀ (rest pre : List (List Int)) (q : Int), 1 ≤ q → q + (totLen rest : Int) ≤ 1048577 → pre.length + rest.length ≤ 1048576 → Ev (fun k => laws_markIntSS.l0 k (pre ++ rest) q (pre.length : Int)) (q + (totLen rest : Int), pre ++ marksSS q rest)
  | [], pre, q, h0, h1, h2 => by
    refine Ev.step (f := fun _ => some (q, pre ++ [])) (fun k => by simp only [laws_markIntSS.l0]; rw [if_neg (by simp)]) ?_
    have : q + ((totLen ([] : List (List Int)) : Nat) : Int) = q := by simp [totLen]
    rw [this]
    exact Ev.now _
  | x :: rest, pre, q, h0, h1, h2 => by
    simp only [totLen, List.length_cons] at h1 h2
    have ih := markIntSS_loop rest (pre ++ [marks q x.length]) (q + (x.length : Int)) (by omega) (by omega) (by rw [List.length_append, List.length_singleton]; omega)
    refine Ev.step (f := fun k => (laws_markIntS.f k x q).bind fun bt => laws_markIntSS.l0 k ((pre ++ x :: rest).set pre.length bt.2) bt.1 ((pre.length + 1 : Nat) : Int)) (fun k => ?_) ?_
    · simp only [laws_markIntSS.l0]
      rw [if_pos (by rw [List.length_append, List.length_cons]; omega), if_pos (by omega), rows_at, w64 (x := (pre.length : Int) + 1) (by omega) (by omega), Int.toNat_natCast]
      rfl
    · refine Ev.bind (markIntS_ev x q (by omega) (by omega) (by omega)) ?_
      dsimp only
      rw [List.append_assoc, List.length_append, List.length_singleton] at ih
      rw [List.set_append_right _ _ (Nat.le_refl _), Nat.sub_self, List.set_cons_zero, show q + ((totLen (x :: rest) : Nat) : Int) = q + (x.length : Int) + (totLen rest : Int) by simp only [totLen]; omega]
      have e : pre ++ marksSS q (x :: rest) = pre ++ [marks q x.length] ++ marksSS (q + (x.length : Int)) rest := by simp [marksSS]
      rw [e]
      exact ih
theorem heldIntSS_loop : ∀ (rest pre : List (List Int)) (q : Int), 1 ≤ q → q + (totLen rest : Int) ≤ 1048577 → pre.length + rest.length ≤ 1048576 → Ev (fun k => laws_heldIntSS.l0 k (pre ++ marksSS q rest) q (pre.length : Int)) (q + (totLen rest : Int))
  | [], pre, q, h0, h1, h2 => by
    refine Ev.step (f := fun _ => some q) (fun k => by simp only [laws_heldIntSS.l0]; rw [if_neg (by simp [marksSS])]) ?_
    have : q + ((totLen ([] : List (List Int)) : Nat) : Int) = q := by simp [totLen]
    rw [this]
    exact Ev.now _
  | x :: rest, pre, q, h0, h1, h2 => by
    simp only [totLen, List.length_cons] at h1 h2
    have ih := heldIntSS_loop rest (pre ++ [marks q x.length]) (q + (x.length : Int)) (by omega) (by omega) (by rw [List.length_append, List.length_singleton]; omega)
    rw [List.append_assoc, List.length_append, List.length_singleton] at ih
    refine Ev.step (f := fun k => (laws_heldIntS.f k (marks q x.length) q).bind fun t => if t < 0 then some (-1) else laws_heldIntSS.l0 k (pre ++ marksSS q (x :: rest)) t ((pre.length + 1 : Nat) : Int)) (fun k => ?_) ?_
    · simp only [laws_heldIntSS.l0]
      rw [if_pos (by simp only [marksSS, List.length_append, List.length_cons]; omega), if_pos (by omega), w64 (x := (pre.length : Int) + 1) (by omega) (by omega)]
      simp only [marksSS]
      rw [rows_at]
      rfl
    · refine Ev.bind (heldIntS_ev q x.length (by omega) (by omega) (by omega)) ?_
      refine Ev.ifF (by omega) ?_
      rw [show q + ((totLen (x :: rest) : Nat) : Int) = q + (x.length : Int) + (totLen rest : Int) by simp only [totLen]; omega]
      exact ih
theorem markIntSS_ev (l : List (List Int)) (h1 : (totLen l : Int) ≤ 1048576) (h2 : l.length ≤ 1048576) : Ev (fun k => laws_markIntSS.f k l 1) (1 + (totLen l : Int), marksSS 1 l) := markIntSS_loop l [] 1 (by omega) (by omega) (by simpa using h2)
theorem heldIntSS_ev (l : List (List Int)) (h1 : (totLen l : Int) ≤ 1048576) (h2 : l.length ≤ 1048576) : Ev (fun k => laws_heldIntSS.f k (marksSS 1 l) 1) (1 + (totLen l : Int)) := heldIntSS_loop l [] 1 (by omega) (by omega) (by simpa using h2)
theorem rows_le {l : List (List Int)} {n : Nat} (h : ∀ y ∈ l, y.length ≤ n) (j : Int) (h0 : 0 ≤ j) (h1 : j < (l.length : Int)) : (rd_L6 l j).length ≤ n := by
  have hj : j.toNat < l.length := by omega
  unfold rd_L6
  rw [List.getD_eq_getElem?_getD, List.getElem?_eq_getElem hj]
  exact h _ (List.getElem_mem hj)
theorem totLen_le {n : Nat} : ∀ (l : List (List Int)), (∀ y ∈ l, y.length ≤ n) → totLen l ≤ l.length * n
  | [], _ => by simp [totLen]
  | x :: xs, h => by
    have h1 := h x List.mem_cons_self
    have h2 := totLen_le xs (fun y hy => h y (List.mem_cons_of_mem _ hy))
    simp only [totLen, List.length_cons, Nat.add_mul, Nat.one_mul]
    omega
theorem szSiphonS_val (l : List S23) (hl : l.length ≤ 9223372036854775807) : laws_szSiphonS.f l 1048576 = some (if (1048576 : Int) - (l.length : Int) < 0 then -1 else 1048576 - (l.length : Int)) := by
  unfold laws_szSiphonS.f
  rw [w64 (x := 1048576 - (l.length : Int)) (by omega) (by omega)]
  split <;> rfl
def toP (l : List S23) : List S29 := l.map fun x => ⟨x.f0, x.f1, x.f2, x.f3⟩
theorem toP_length (l : List S23) : (toP l).length = l.length := by simp [toP]
theorem toSiphonS_ev (l : List S23) (hl : l.length ≤ 1048576) : Ev (fun k => laws_toSiphonS.f k l) (toP l) := by
  have key : ∀ (m : Nat) (i : Int) (y : List S29), 0 ≤ i → (l.length : Int) - i = m → y.length = l.length → (∀ j : Nat, j < i.toNat → y[j]? = (toP l)[j]?) → Ev (fun k => laws_toSiphonS.l0 k l y i) (toP l) := by
    intro m
    induction m with
    | zero =>
      intro i y h0 hm hyl hj
      refine Ev.step (f := fun _ => some y) (fun k => by simp only [laws_toSiphonS.l0]; rw [if_neg (by omega)]) ?_
      have : y = toP l := by
        apply List.ext_getElem?
        intro j
        by_cases h : j < l.length
        · exact hj j (by omega)
        · rw [List.getElem?_eq_none (by omega), List.getElem?_eq_none (by rw [toP_length]; omega)]
      rw [this]
      exact Ev.now _
    | succ m ih =>
      intro i y h0 hm hyl hj
      have hi : i.toNat < l.length := by omega
      refine Ev.step (f := fun k => laws_toSiphonS.l0 k l (y.set i.toNat ⟨(rd_T23 l i).f0, (rd_T23 l i).f1, (rd_T23 l i).f2, (rd_T23 l i).f3⟩) (i + 1)) (fun k => ?_) ?_
      · simp only [laws_toSiphonS.l0, laws_toSiphon.f, Option.bind_some]
        rw [if_pos (by omega), if_pos h0, if_pos (by omega), w64 (x := i + 1) (by omega) (by omega)]
      · refine ih (i + 1) _ (by omega) (by omega) (by rw [List.length_set]; exact hyl) (fun j hlt => ?_)
        by_cases e : j = i.toNat
        · subst e
          rw [List.getElem?_set_self (by omega)]
          simp only [toP, List.getElem?_map, List.getElem?_eq_getElem hi, Option.map_some]
          unfold rd_T23
          rw [getD_eq z23 hi]
        · rw [List.getElem?_set_ne (fun e' => e e'.symm)]
          exact hj j (by omega)
  unfold laws_toSiphonS.f
  refine Ev.ifT (by omega) (Ev.ifT (by omega) ?_)
  exact key l.length 0 _ (by omega) (by omega) (by simp) (fun j hj => absurd hj (by simp))
theorem eqSiphonS_ev (l : List S29) (hl : l.length ≤ 1048576) : Ev (fun k => laws_eqSiphonS.f k l l) true := by
  refine Ev.congr (fun k => ?_) (same_ev (l0 := laws_eqSiphonS.l0) (fun k x i => by simp only [laws_eqSiphonS.l0, laws_eqSiphon.f, if_true, Option.bind_some]) l (by omega))
  show laws_eqSiphonS.f k l l = _
  unfold laws_eqSiphonS.f
  rw [if_pos rfl]
/-- ascending numbers in siphons -/
def nextM (x : List S29) (q i : Int) : List S29 :=
  let y := x.set i.toNat ⟨q, (rd_T29 x i).f1, (rd_T29 x i).f2, (rd_T29 x i).f3⟩
  let z := y.set i.toNat ⟨(rd_T29 y i).f0, q + 1, (rd_T29 y i).f2, (rd_T29 y i).f3⟩
  let u := z.set i.toNat ⟨(rd_T29 z i).f0, (rd_T29 z i).f1, q + 1 + 1, (rd_T29 z i).f3⟩
  u.set i.toNat ⟨(rd_T29 u i).f0, (rd_T29 u i).f1, (rd_T29 u i).f2, q + 1 + 1 + 1⟩
theorem markSiphonS_ev (l : List S29) (hl : l.length ≤ 1048576) : ∃ y : List S29, Ev (fun k => laws_markSiphonS.f k l 1) (1 + 4 * (l.length : Int), y) := by
  have key : ∀ (m : Nat) (x : List S29) (i : Int), x.length = l.length → 0 ≤ i → (l.length : Int) - i = m → ∃ y : List S29, Ev (fun k => laws_markSiphonS.l0 k x (1 + 4 * i) i) (1 + 4 * (l.length : Int), y) := by
    intro m
    induction m with
    | zero =>
      intro x i hx h0 hm
      refine ⟨x, Ev.step (f := fun _ => some (1 + 4 * i, x)) (fun k => by simp only [laws_markSiphonS.l0]; rw [if_neg (by omega)]) ?_⟩
      rw [show 1 + 4 * i = 1 + 4 * (l.length : Int) by omega]
      exact Ev.now _
    | succ m ih =>
      intro x i hx h0 hm
      obtain ⟨y, h⟩ := ih (nextM x (1 + 4 * i) i) (i + 1) (by unfold nextM; simp only [List.length_set]; exact hx) (by omega) (by omega)
      refine ⟨y, Ev.step (fun k => ?_) h⟩
      simp only [laws_markSiphonS.l0, Option.bind_some]
      rw [if_pos (by omega), if_pos h0, w64 (x := 1 + 4 * i + 1) (by omega) (by omega), w64 (x := 1 + 4 * i + 1 + 1) (by omega) (by omega), w64 (x := 1 + 4 * i + 1 + 1 + 1) (by omega) (by omega), w64 (x := 1 + 4 * i + 1 + 1 + 1 + 1) (by omega) (by omega), w64 (x := i + 1) (by omega) (by omega), show 1 + 4 * i + 1 + 1 + 1 + 1 = 1 + 4 * (i + 1) by omega]
      rfl
  have := key l.length l 0 rfl (by omega) (by omega)
  rw [Int.mul_zero, Int.add_zero] at this
  exact this
theorem ok_goodS (x : S29) : siphonOk x = goodS x.f0 x.f1 x.f2 x.f3 := by
  have h1 := isSiphon_val x.f0 x.f1 x.f2 x.f3
  rw [Go.Proofs.Ytminippcikenfaa.PFnExactChainOuts.isSiphon_val] at h1
  exact Option.some.inj h1
def goodC (l : List S29) : Bool := decide (1 ≤ (l.length : Int) ∧ (l.length : Int) ≤ 4) && !(l.any fun x => !siphonOk x)
theorem siChain_ev (l : List S29) (hl : l.length ≤ 1048576) : Ev (fun k => spec_siChain.f k l) (goodC l) := by
  have ht : ∀ x : S29, spec_siGood.f x.f0 x.f1 x.f2 x.f3 = some (siphonOk x) := fun x => by rw [siGood_val, ok_goodS]
  unfold spec_siChain.f goodC
  rw [in_val]
  refine Ev.now_ ?_
  by_cases h : 1 ≤ (l.length : Int) ∧ (l.length : Int) ≤ 4
  · rw [decide_eq_true h, Bool.true_and]
    refine Ev.ifT rfl ?_
    have e : (!(l.any fun x => !siphonOk x)) = l.all siphonOk := by
      rw [List.any_eq_not_all_not, Bool.not_not]
      congr 1
      funext x
      simp
    rw [e]
    refine all_ev (l0 := fun k x i => spec_siChain.l0 k x (x.length : Int) i) z29 siphonOk (fun k x i h0 => ?_) l (by omega)
    show spec_siChain.l0 (k + 1) x (x.length : Int) i = _
    simp only [spec_siChain.l0, ht, Option.bind_some]
    by_cases hi : i < (x.length : Int)
    · rw [if_pos hi, if_pos h0, if_pos hi, if_pos hi]
      rfl
    · rw [if_neg hi, if_neg hi]
  · rw [decide_eq_false h, Bool.false_and]
    exact Ev.ifF (by decide) (Ev.now _)
theorem tick_out {s l st f h x : Int} {r : Bool} (hg : goodS s l st f = true) : 0 ≤ (tickM s l st f h r x).2.2.1 ∧ (tickM s l st f h r x).2.2.1 ≤ 60 := by
  have b := goodS_le hg
  unfold tickM tick1
  generalize (if h + x > s then s else h + x) = h2
  generalize (r || decide (h2 ≥ st)) = q
  cases q with
  | true =>
    rw [if_pos rfl]
    dsimp only
    (repeat' split) <;> omega
  | false =>
    rw [if_neg (by decide)]
    dsimp only
    omega
theorem runM_os {s l st f h : Int} {r : Bool} {x : List Int} (hg : goodS s l st f = true) : ∀ o ∈ (runM s l st f h r x).os, 0 ≤ o ∧ o ≤ 60 := by
  have key : ∀ (m : Nat) (i : Int) (σ : Run), (∀ o ∈ σ.os, 0 ≤ o ∧ o ≤ 60) → ∀ o ∈ (foldFrom (stepR s l st f x) m i σ).os, 0 ≤ o ∧ o ≤ 60 := by
    intro m
    induction m with
    | zero => intro i σ hσ; exact hσ
    | succ m ih =>
      intro i σ hσ
      refine ih (i + 1) (stepR s l st f x i σ) (fun o ho => ?_)
      simp only [stepR, List.mem_append, List.mem_singleton] at ho
      rcases ho with ho | rfl
      · exact hσ o ho
      · exact tick_out hg
  exact key x.length 0 _ (fun o ho => by cases ho)
/-- what runs out of each siphon of a chain -/
def chainO : List S29 → List Int → List (List Int)
  | [], _ => []
  | s :: ss, x => (runM s.f0 s.f1 s.f2 s.f3 0 false x).os :: chainO ss (runM s.f0 s.f1 s.f2 s.f3 0 false x).os
def okX (x : List Int) : Bool := decide (x.length ≤ 100) && allIn x 0 60
theorem asked_ok {s : S29} {x : List Int} (hs : siphonOk s = true) (hx : okX x = true) : asked s.f0 s.f1 s.f2 s.f3 0 x = true := by
  rw [ok_goodS] at hs
  have b := goodS_le hs
  unfold asked goodL
  unfold okX at hx
  rw [hs, hx, decide_eq_true (by omega)]
  rfl
theorem okX_out {s : S29} {x : List Int} (hs : siphonOk s = true) (hx : okX x = true) : okX (runM s.f0 s.f1 s.f2 s.f3 0 false x).os = true := by
  have hl := (runM_len (r := false) (asked_ok hs hx)).2.1
  have ho := runM_os (h := 0) (r := false) (x := x) (by rw [← ok_goodS]; exact hs)
  unfold okX at hx ⊢
  simp only [Bool.and_eq_true, decide_eq_true_eq] at hx ⊢
  refine ⟨by omega, ?_⟩
  unfold allIn
  rw [List.all_eq_true]
  intro o h
  exact decide_eq_true (ho o h)
theorem chainO_len : ∀ (l : List S29) (x : List Int), (chainO l x).length = l.length
  | [], _ => rfl
  | s :: ss, x => by simp only [chainO, List.length_cons, chainO_len ss]
theorem chainO_rows : ∀ (l : List S29) (x : List Int), (∀ s ∈ l, siphonOk s = true) → okX x = true → ∀ y ∈ chainO l x, y.length ≤ 100
  | [], _, _, _, y, hy => by cases hy
  | s :: ss, x, hl, hx, y, hy => by
    have hs := hl s List.mem_cons_self
    simp only [chainO, List.mem_cons] at hy
    have ho := okX_out hs hx
    rcases hy with rfl | hy
    · unfold okX at ho
      simp only [Bool.and_eq_true, decide_eq_true_eq] at ho
      exact ho.1
    · exact chainO_rows ss _ (fun s' h' => hl s' (List.mem_cons_of_mem _ h')) ho y hy
theorem specChain_ev : ∀ (l : List S29) (x : List Int) (out : List (List Int)), (∀ s ∈ l, siphonOk s = true) → okX x = true → Ev (fun k => spec_ChainOuts.l0 k l x out) (out ++ chainO l x)
  | [], x, out, _, _ => by
    simp only [spec_ChainOuts.l0, chainO, List.append_nil]
    exact Ev.now _
  | s :: ss, x, out, hl, hx => by
    have hs := hl s List.mem_cons_self
    simp only [spec_ChainOuts.l0, chainO]
    refine Ev.bind (siRun_ev (r := false) (asked_ok hs hx)) ?_
    have := specChain_ev ss _ (out ++ [(runM s.f0 s.f1 s.f2 s.f3 0 false x).os]) (fun s' h' => hl s' (List.mem_cons_of_mem _ h')) (okX_out hs hx)
    rw [List.append_assoc] at this
    exact this
theorem implChain_ev : ∀ (l : List S29) (x : List Int) (out : List (List Int)), (∀ s ∈ l, siphonOk s = true) → okX x = true → Ev (fun k => impl_ChainOuts.l0 k l x out) (out ++ chainO l x)
  | [], x, out, _, _ => by
    simp only [impl_ChainOuts.l0, chainO, List.append_nil]
    exact Ev.now _
  | s :: ss, x, out, hl, hx => by
    have hs := hl s List.mem_cons_self
    simp only [impl_ChainOuts.l0, chainO]
    refine Ev.bind (implRun_ev (r := false) (asked_ok hs hx)) ?_
    have := implChain_ev ss _ (out ++ [(runM s.f0 s.f1 s.f2 s.f3 0 false x).os]) (fun s' h' => hl s' (List.mem_cons_of_mem _ h')) (okX_out hs hx)
    rw [List.append_assoc] at this
    exact this
theorem goodC_all {l : List S29} (h : goodC l = true) : l.length ≤ 4 ∧ ∀ s ∈ l, siphonOk s = true := by
  unfold goodC at h
  simp only [Bool.and_eq_true, decide_eq_true_eq, Bool.not_eq_true', List.any_eq_false, Bool.not_eq_true, Bool.not_eq_false] at h
  exact ⟨by omega, fun s hs => by have := h.2 s hs; simpa using this⟩
def answer (l : List S29) (x : List Int) : List (List Int) × Bool := if (goodC l && okX x) = true then (chainO l x, true) else ([], false)
theorem map_ev {α β : Type} {g : Nat → Option α} {a : α} (h : Ev g a) (f : α → β) : Ev (fun k => (g k).map f) (f a) := by
  obtain ⟨K, hK⟩ := h
  exact ⟨K, fun k hk => by show (g k).map f = _; rw [hK k hk]; rfl⟩
theorem spec_ev (l : List S29) (x : List Int) (hl : l.length ≤ 1048576) (hx : x.length ≤ 1048576) : Ev (fun k => spec_ChainOuts.f k l x) (answer l x) := by
  unfold spec_ChainOuts.f answer
  refine Ev.bind (siChain_ev l hl) ?_
  cases hc : goodC l with
  | false => rw [Bool.false_and, if_neg (by decide)]; exact Ev.ifF (by decide) (Ev.now _)
  | true =>
    rw [Bool.true_and]
    refine Ev.ifT rfl ?_
    by_cases h1 : (x.length : Int) > 100
    · have : okX x = false := by unfold okX; rw [decide_eq_false (by omega), Bool.false_and]
      rw [this, if_neg (by decide)]
      exact Ev.ifT h1 (Ev.now _)
    · refine Ev.ifF h1 (Ev.bind (l1All_ev x 0 60 hx) ?_)
      have : okX x = allIn x 0 60 := by unfold okX; rw [decide_eq_true (by omega), Bool.true_and]
      cases ha : allIn x 0 60 with
      | false => rw [this, ha, if_neg (by decide)]; exact Ev.ifF (by decide) (Ev.now _)
      | true =>
        rw [ha] at this
        have g := goodC_all hc
        rw [this, if_pos rfl]
        refine Ev.ifT rfl (Ev.ifT (by omega) ?_)
        exact map_ev (specChain_ev l x [] g.2 this) (fun r => (r, true))
theorem impl_ev (l : List S29) (x : List Int) : Ev (fun k => impl_ChainOuts.f k l x) (answer l x) := by
  unfold impl_ChainOuts.f answer
  rw [show impl_isChain.f l = some (goodC l) from rfl]
  refine Ev.now_ ?_
  cases hc : goodC l with
  | false => rw [Bool.false_and, if_neg (by decide)]; exact Ev.ifF (by decide) (Ev.now _)
  | true =>
    rw [Bool.true_and]
    refine Ev.ifT rfl ?_
    rw [areInflows_val, show (decide (x.length ≤ 100) && allIn x 0 60) = okX x from rfl]
    refine Ev.now_ ?_
    cases ho : okX x with
    | false => rw [if_neg (by decide)]; exact Ev.ifF (by decide) (Ev.now _)
    | true =>
      have g := goodC_all hc
      rw [if_pos rfl]
      refine Ev.ifT rfl (Ev.ifT (by omega) ?_)
      exact map_ev (implChain_ev l x [] g.2 ho) (fun r => (r, true))
theorem answer_rows (l : List S29) (x : List Int) : (answer l x).1.length ≤ 4 ∧ ∀ y ∈ (answer l x).1, y.length ≤ 100 := by
  unfold answer
  cases hc : (goodC l && okX x) with
  | false => rw [if_neg (by decide)]; exact ⟨by simp, fun y hy => by cases hy⟩
  | true =>
    rw [if_pos rfl]
    simp only [Bool.and_eq_true] at hc
    have g := goodC_all hc.1
    exact ⟨by show (chainO l x).length ≤ 4; rw [chainO_len]; exact g.1, chainO_rows l x g.2 hc.2⟩
theorem FnExactChainOuts : ∀ (l0 : (List S23)) (l1 : (List Int)), (l0.length ≤ maxLen ∧ ∀ y2 ∈ l0, ((Lit.int .i64 y2.f0).wf = true) ∧ ((Lit.int .i64 y2.f1).wf = true) ∧ ((Lit.int .i64 y2.f2).wf = true) ∧ ((Lit.int .i64 y2.f3).wf = true)) → (l1.length ≤ maxLen ∧ ∀ y2 ∈ l1, (Lit.int .i64 y2).wf = true) → ∃ k, laws_FnExactChainOuts.f k l0 l1 = some true := by
  intro l x hl hx
  refine Ev.rounds (?_ : Ev (fun k => laws_FnExactChainOuts.f k l x) true)
  have b1 : l.length ≤ maxLen := by first | exact hl.1 | exact hl
  simp only [maxLen] at b1
  unfold laws_FnExactChainOuts.f
  by_cases hn : (x.length : Int) > 1048576
  · exact Ev.ifT hn (Ev.now _)
  refine Ev.ifF hn ?_
  rw [szSiphonS_val l (by omega)]
  refine Ev.now_ ?_
  by_cases hm : (1048576 : Int) - (l.length : Int) < 0
  · rw [if_pos hm]
    exact Ev.ifT (by decide) (Ev.now _)
  rw [if_neg hm]
  refine Ev.ifF hm ?_
  have hp : (toP l).length ≤ 1048576 := by rw [toP_length]; omega
  have hT := toSiphonS_ev l (by omega)
  have hE := eqSiphonS_ev (toP l) hp
  obtain ⟨y, hM⟩ := markSiphonS_ev (toP l) hp
  have hS := spec_ev (toP l) x hp (by omega)
  have hI := impl_ev (toP l) x
  have hR := answer_rows (toP l) x
  generalize toP l = s at hT hE hM hS hI hR hp
  generalize answer s x = r at hS hI hR
  obtain ⟨g, t⟩ := r
  dsimp only at hR
  have hr : ∀ y ∈ g, y.length ≤ 1048576 := fun y hy => Nat.le_trans (hR.2 y hy) (by omega)
  have ht := totLen_le g hR.2
  have ht2 : totLen g ≤ 400 := Nat.le_trans ht (by have := Nat.mul_le_mul_right 100 hR.1; omega)
  refine Ev.bind hT ?_
  refine Ev.bind (toIntS_ev x (by omega)) ?_
  refine Ev.bind hS ?_
  refine Ev.bind hI ?_
  refine Ev.bind (eqIntSS_ev g (by omega) (rows_le hr)) ?_
  refine Ev.ifT ⟨rfl, rfl⟩ ?_
  refine Ev.bind hE ?_
  refine Ev.ifT rfl ?_
  refine Ev.bind (eqIntS_ev x (by omega)) ?_
  refine Ev.ifT rfl ?_
  refine Ev.bind hM ?_
  refine Ev.bind (markIntS_ev x (1 + 4 * (s.length : Int)) (by omega) (by omega) (by omega)) ?_
  refine Ev.ifF (by dsimp only; omega) ?_
  refine Ev.bind (markIntSS_ev g (by omega) (by omega)) ?_
  refine Ev.bind (heldIntSS_ev g (by omega) (by omega)) ?_
  refine Ev.ifF (by omega) ?_
  exact Ev.ifT rfl (Ev.now _)

end Go.Proofs.Ytminippcikenfaa.Pure

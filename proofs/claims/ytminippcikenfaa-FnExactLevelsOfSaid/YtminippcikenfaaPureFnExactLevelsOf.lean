/- The pure statement of the law FnExactLevelsOf: what its printed functions compute is true for every input. No conditions. -/
import Derived.Test.YtminippcikenfaaPFnExactLevelsOfx6
import Derived.Test.YtminippcikenfaaPl
namespace Go.Proofs.Ytminippcikenfaa.Pure
open Go.RowKit Go.Proofs.Ytminippcikenfaa.PFnExactLevelsOf Go.Proofs.YtminippcikenfaaW.PrintWords Go.Proofs.YtminippcikenfaaW.PrintLast Go.Proofs.Ytminippcikenfaa.Pl
set_option linter.unusedVariables false
set_option linter.unusedSimpArgs false

theorem within_val (x a b : Int) : impl_within.f x a b = some (decide (a ≤ x ∧ x ≤ b)) := by
  unfold impl_within.f
  by_cases h : a ≤ x <;> simp [h]
theorem in_val (x a b : Int) : spec_l1In.f x a b = some (decide (a ≤ x ∧ x ≤ b)) := within_val x a b
theorem toIntS_ev (l : List Int) (hl : l.length ≤ 1048576) : Ev (fun k => laws_toIntS.f k l) l := by
  refine Ev.congr (fun k => ?_) (copy_ev 0 (l0 := laws_toIntS.l0) (fun _ _ _ _ => rfl) l 0 (by omega))
  show laws_toIntS.f k l = _
  unfold laws_toIntS.f
  rw [if_pos (by omega), if_pos (by omega)]
theorem eqIntS_ev (l : List Int) (hl : l.length ≤ 1048576) : Ev (fun k => laws_eqIntS.f k l l) true := by
  refine Ev.congr (fun k => ?_) (same_ev (l0 := laws_eqIntS.l0) (fun k x i => by simp only [laws_eqIntS.l0, if_true]) l (by omega))
  show laws_eqIntS.f k l l = _
  unfold laws_eqIntS.f
  rw [if_pos rfl]
/-- all elements lie in some bounds -/
def allIn (l : List Int) (a b : Int) : Bool := l.all fun x => decide (a ≤ x ∧ x ≤ b)
theorem areWithin_val (l : List Int) (a b : Int) : impl_areWithin.f l a b = some (allIn l a b) := by
  unfold impl_areWithin.f allIn
  congr 1
  rw [List.any_eq_not_all_not, Bool.not_not]
  congr 1
  funext x
  simp
theorem l1All_ev (l : List Int) (a b : Int) (hl : l.length ≤ 1048576) : Ev (fun k => spec_l1All.f k l a b) (allIn l a b) := by
  refine all_ev (l0 := fun k x i => spec_l1All.l0 k a b x (x.length : Int) i) 0 (fun x => decide (a ≤ x ∧ x ≤ b)) (fun k x i h0 => ?_) l (by omega)
  show spec_l1All.l0 (k + 1) a b x (x.length : Int) i = _
  simp only [spec_l1All.l0, in_val, Option.bind_some]
  by_cases hi : i < (x.length : Int)
  · rw [if_pos hi, if_pos h0, if_pos hi, if_pos hi]
    rfl
  · rw [if_neg hi, if_neg hi]
/-- a siphon's own bounds -/
def goodS (s l st f : Int) : Bool := decide (1 ≤ s ∧ s ≤ 60) && (decide (0 ≤ l ∧ l < st ∧ st ≤ s) && decide (1 ≤ f ∧ f ≤ 60))
theorem goodS_le {s l st f : Int} (h : goodS s l st f = true) : (1 ≤ s ∧ s ≤ 60) ∧ (0 ≤ l ∧ l < st ∧ st ≤ s) ∧ (1 ≤ f ∧ f ≤ 60) := by
  unfold goodS at h
  simpa using h
theorem siGood_val (s l st f : Int) : spec_siGood.f s l st f = some (goodS s l st f) := by
  unfold spec_siGood.f goodS
  simp only [in_val, Option.bind_some]
  by_cases h0 : 1 ≤ s ∧ s ≤ 60
  · rw [decide_eq_true h0, if_pos rfl]
    rw [w64 (x := s - 1) (by omega) (by omega)]
    by_cases h1 : 0 ≤ l ∧ l ≤ s - 1
    · rw [decide_eq_true h1, if_pos rfl, w64 (x := l + 1) (by omega) (by omega)]
      by_cases h2 : l + 1 ≤ st ∧ st ≤ s
      · rw [decide_eq_true h2, if_pos rfl, decide_eq_true (show 0 ≤ l ∧ l < st ∧ st ≤ s by omega)]
        simp
      · rw [decide_eq_false h2, if_neg (by decide), decide_eq_false (show ¬ (0 ≤ l ∧ l < st ∧ st ≤ s) by omega)]
        simp
    · rw [decide_eq_false h1, if_neg (by decide), decide_eq_false (show ¬ (0 ≤ l ∧ l < st ∧ st ≤ s) by omega)]
      simp
  · rw [decide_eq_false h0, if_neg (by decide)]
    simp
theorem isSiphon_val (s l st f : Int) : impl_IsSiphon.f s l st f = some (goodS s l st f) := by
  unfold impl_IsSiphon.f goodS
  simp only [within_val, Option.bind_some]
  by_cases h0 : 1 ≤ s ∧ s ≤ 60
  · rw [decide_eq_true h0, if_pos rfl]
    by_cases h1 : l ≥ 0
    · rw [if_pos h1]
      by_cases h2 : l < st
      · rw [if_pos h2]
        by_cases h3 : st ≤ s
        · rw [if_pos h3, decide_eq_true (show 0 ≤ l ∧ l < st ∧ st ≤ s by omega)]
          simp
        · rw [if_neg h3, decide_eq_false (show ¬ (0 ≤ l ∧ l < st ∧ st ≤ s) by omega)]
          simp
      · rw [if_neg h2, decide_eq_false (show ¬ (0 ≤ l ∧ l < st ∧ st ≤ s) by omega)]
        simp
    · rw [if_neg h1, decide_eq_false (show ¬ (0 ≤ l ∧ l < st ∧ st ≤ s) by omega)]
      simp
  · rw [decide_eq_false h0, if_neg (by decide)]
    simp
def goodL (s l st f h : Int) : Bool := goodS s l st f && decide (0 ≤ h ∧ h ≤ s)
theorem siLevel_val (s l st f h : Int) (r : Bool) : spec_siLevel.f s l st f h r = some (goodL s l st f h) := by
  unfold spec_siLevel.f goodL
  rw [siGood_val, Option.bind_some]
  cases goodS s l st f with
  | true => rw [if_pos rfl, in_val]; simp
  | false => rw [if_neg (by decide)]; simp
theorem isLevel_val (s l st f h : Int) (r : Bool) : impl_isLevel.f s l st f h r = some (goodL s l st f h) := by
  unfold impl_isLevel.f impl_IsSiphonLevel.f goodL
  rw [isSiphon_val, Option.bind_some]
  cases goodS s l st f with
  | true => rw [if_pos rfl, within_val]; simp
  | false => rw [if_neg (by decide)]; simp
/-- level and inflows are right -/
def asked (s l st f h : Int) (x : List Int) : Bool := goodL s l st f h && (decide (x.length ≤ 100) && allIn x 0 60)
theorem asked_le {s l st f h : Int} {x : List Int} (g : asked s l st f h x = true) : goodS s l st f = true ∧ (0 ≤ h ∧ h ≤ s) ∧ x.length ≤ 100 ∧ ∀ i, 0 ≤ i → i < (x.length : Int) → 0 ≤ rd x i ∧ rd x i ≤ 60 := by
  unfold asked goodL allIn at g
  simp only [Bool.and_eq_true, decide_eq_true_eq, List.all_eq_true] at g
  obtain ⟨⟨g1, g2⟩, g3, g4⟩ := g
  refine ⟨g1, g2, g3, fun i h0 h1 => ?_⟩
  have hj : i.toNat < x.length := by omega
  exact g4 (rd x i) (by unfold rd; rw [getD_eq 0 hj]; exact List.getElem_mem hj)
theorem siAsked_ev (s l st f h : Int) (r : Bool) (x : List Int) (hx : x.length ≤ 1048576) : Ev (fun k => spec_siAsked.f k s l st f h r x) (asked s l st f h x) := by
  unfold spec_siAsked.f asked
  rw [siLevel_val]
  refine Ev.now_ ?_
  cases goodL s l st f h with
  | false => exact Ev.ifF (by decide) (Ev.now _)
  | true =>
    refine Ev.ifT rfl ?_
    rw [Bool.true_and]
    by_cases h1 : x.length ≤ 100
    · rw [decide_eq_true h1, Bool.true_and]
      refine Ev.ifT (by omega) (Ev.bind (l1All_ev x 0 60 hx) ?_)
      exact Ev.now _
    · rw [decide_eq_false h1, Bool.false_and]
      exact Ev.ifF (by omega) (Ev.now _)
theorem areInflows_val (x : List Int) : impl_areInflows.f x = some (decide (x.length ≤ 100) && allIn x 0 60) := by
  unfold impl_areInflows.f
  rw [areWithin_val]
  by_cases h1 : x.length ≤ 100
  · rw [if_pos (by omega), decide_eq_true h1]; simp
  · rw [if_neg (by omega), decide_eq_false h1]; simp
/-- one tick, behind what is spilt -/
def tick1 (l f h2 sp : Int) (r : Bool) : Int × Bool × Int × Int :=
  if r = true then (h2 - (if h2 - l > 0 then (if f < h2 - l then f else h2 - l) else 0), decide (h2 - (if h2 - l > 0 then (if f < h2 - l then f else h2 - l) else 0) > l), (if h2 - l > 0 then (if f < h2 - l then f else h2 - l) else 0), sp)
  else (h2, false, 0, sp)
def tickM (s l st f h : Int) (r : Bool) (x : Int) : Int × Bool × Int × Int :=
  tick1 l f (if h + x > s then s else h + x) (if h + x > s then h + x - s else 0) (r || decide ((if h + x > s then s else h + x) ≥ st))
theorem tick1_le {s l f h2 sp : Int} {r : Bool} (hl : 0 ≤ l ∧ l ≤ 60) (hf : 1 ≤ f ∧ f ≤ 60) (h0 : 0 ≤ h2) (h1 : h2 ≤ s) : 0 ≤ (tick1 l f h2 sp r).1 ∧ (tick1 l f h2 sp r).1 ≤ s := by
  unfold tick1
  cases r with
  | true =>
    rw [if_pos rfl]
    dsimp only
    (repeat' split) <;> omega
  | false =>
    rw [if_neg (by decide)]
    exact ⟨h0, h1⟩
theorem tickM_le {s l st f h x : Int} {r : Bool} (hg : goodS s l st f = true) (hh : 0 ≤ h ∧ h ≤ s) (hx : 0 ≤ x ∧ x ≤ 60) : 0 ≤ (tickM s l st f h r x).1 ∧ (tickM s l st f h r x).1 ≤ s := by
  have b := goodS_le hg
  unfold tickM
  apply tick1_le (by omega) b.2.2
  · split <;> omega
  · split <;> omega
theorem siTick_j1 {k : Nat} {s l st f h2 sp : Int} {r : Bool} (hl : 0 ≤ l ∧ l ≤ 60) (hf : 1 ≤ f ∧ f ≤ 60) (h0 : 0 ≤ h2) (h1 : h2 ≤ 60) : spec_siTick.j1 (k + 1) h2 sp r s l st f = some (tick1 l f h2 sp r) := by
  simp only [spec_siTick.j1, tick1]
  cases r with
  | false => rw [if_neg (by decide), if_neg (by decide)]
  | true =>
    rw [if_pos rfl, if_pos rfl]
    rw [w64 (x := h2 - l) (by omega) (by omega)]
    unfold spec_l1Most.f spec_l1Least.f
    by_cases c : h2 - l > 0
    · rw [if_pos c, Option.bind_some, if_pos c]
      by_cases e : f < h2 - l
      · rw [if_pos e, Option.bind_some, if_pos e, w64 (by omega) (by omega)]
      · rw [if_neg e, Option.bind_some, if_neg e, w64 (by omega) (by omega)]
    · rw [if_neg c, Option.bind_some, if_neg c, if_neg (by omega), Option.bind_some, w64 (by omega) (by omega)]
theorem siTick_ev {s l st f h x : Int} {r : Bool} (hg : goodS s l st f = true) (hh : 0 ≤ h ∧ h ≤ s) (hx : 0 ≤ x ∧ x ≤ 60) : ∀ k, 2 ≤ k → spec_siTick.f k s l st f h r x = some (tickM s l st f h r x) := by
  intro k hk
  obtain ⟨k, rfl⟩ : ∃ j, k = j + 2 := ⟨k - 2, by omega⟩
  have b := goodS_le hg
  unfold spec_siTick.f tickM
  rw [w64 (x := h + x) (by omega) (by omega)]
  by_cases c : h + x > s
  · rw [if_pos c, if_pos c, if_pos c, w64 (x := h + x - s) (by omega) (by omega)]
    simp only [spec_siTick.j0]
    cases r with
    | true => rw [if_pos rfl, siTick_j1 (by omega) b.2.2 (by omega) (by omega)]; rfl
    | false => rw [if_neg (by decide), siTick_j1 (by omega) b.2.2 (by omega) (by omega), Bool.false_or]
  · rw [if_neg c, if_neg c, if_neg c]
    simp only [spec_siTick.j0]
    cases r with
    | true => rw [if_pos rfl, siTick_j1 (by omega) b.2.2 (by omega) (by omega)]; rfl
    | false => rw [if_neg (by decide), siTick_j1 (by omega) b.2.2 (by omega) (by omega), Bool.false_or]
theorem implTick_val {s l st f h x : Int} {r : Bool} (hg : goodS s l st f = true) (hh : 0 ≤ h ∧ h ≤ s) (hx : 0 ≤ x ∧ x ≤ 60) : impl_Siphon_tick.f s l st f h r x = some (tickM s l st f h r x) := by
  have b := goodS_le hg
  obtain ⟨sp, hsp⟩ : ∃ q, (if h + x > s then h + x - s else 0) = q := ⟨_, rfl⟩
  obtain ⟨h2, hh2⟩ : ∃ q, (if h + x > s then s else h + x) = q := ⟨_, rfl⟩
  have e0 : mx 0 (wrap64 (wrap64 (h + x) - s)) = sp := by
    rw [w64 (x := h + x) (by omega) (by omega), w64 (x := h + x - s) (by omega) (by omega), ← hsp]
    unfold mx
    (repeat' split) <;> omega
  have e1 : wrap64 (wrap64 (h + x) - sp) = h2 := by
    rw [w64 (x := h + x) (by omega) (by omega), w64 (by rw [← hsp]; split <;> omega) (by rw [← hsp]; split <;> omega), ← hsp, ← hh2]
    (repeat' split) <;> omega
  have b2 : 0 ≤ h2 ∧ h2 ≤ 60 := by rw [← hh2]; split <;> omega
  obtain ⟨o, ho⟩ : ∃ q, (if h2 - l > 0 then (if f < h2 - l then f else h2 - l) else 0) = q := ⟨_, rfl⟩
  have b3 : 0 ≤ o ∧ o ≤ 60 := by rw [← ho]; (repeat' split) <;> omega
  have e2 : mn f (mx 0 (wrap64 (h2 - l))) = o := by
    rw [w64 (x := h2 - l) (by omega) (by omega), ← ho]
    unfold mn mx
    (repeat' split) <;> omega
  have e3 : wrap64 (h2 - o) = h2 - o := w64 (by omega) (by omega)
  unfold impl_Siphon_tick.f tickM tick1
  rw [e0, e1, e2, e3, hh2, hsp, ho]
  cases r with
  | true => rw [if_pos rfl, Bool.true_or, if_pos rfl]
  | false =>
    rw [if_neg (by decide), Bool.false_or]
    by_cases c : h2 ≥ st
    · rw [if_pos c, decide_eq_true c, if_pos rfl]
    · rw [if_neg c, decide_eq_false c, if_neg (by decide)]
/-- what a run has held, handed out and spilt so far -/
structure Run where
  h : Int
  r : Bool
  lv : List S31
  os : List Int
  sp : List Int
def stepR (s l st f : Int) (x : List Int) (i : Int) (σ : Run) : Run :=
  ⟨(tickM s l st f σ.h σ.r (rd x i)).1, (tickM s l st f σ.h σ.r (rd x i)).2.1, σ.lv ++ [⟨(tickM s l st f σ.h σ.r (rd x i)).1, (tickM s l st f σ.h σ.r (rd x i)).2.1⟩], σ.os ++ [(tickM s l st f σ.h σ.r (rd x i)).2.2.1], σ.sp ++ [(tickM s l st f σ.h σ.r (rd x i)).2.2.2]⟩
def runM (s l st f h : Int) (r : Bool) (x : List Int) : Run := foldFrom (stepR s l st f x) x.length 0 ⟨h, r, [⟨h, r⟩], [], []⟩
def okR (s : Int) (i : Int) (σ : Run) : Prop := (0 ≤ σ.h ∧ σ.h ≤ s) ∧ (σ.lv.length : Int) = i + 1 ∧ (σ.os.length : Int) = i ∧ (σ.sp.length : Int) = i
theorem okR_step {s l st f h : Int} {x : List Int} (g : asked s l st f h x = true) (i : Int) (σ : Run) (h0 : 0 ≤ i) (h1 : i < (x.length : Int)) (hσ : okR s i σ) : okR s (i + 1) (stepR s l st f x i σ) := by
  have a := asked_le g
  obtain ⟨c1, c2, c3, c4⟩ := hσ
  refine ⟨tickM_le a.1 c1 (a.2.2.2 i h0 h1), ?_, ?_, ?_⟩
  · simp only [stepR, List.length_append, List.length_cons, List.length_nil]; omega
  · simp only [stepR, List.length_append, List.length_cons, List.length_nil]; omega
  · simp only [stepR, List.length_append, List.length_cons, List.length_nil]; omega
def sumI (l : List Int) : Int := l.foldl (fun a b => wrap64 (a + b)) 0
theorem sumI_snoc (l : List Int) (a : Int) : sumI (l ++ [a]) = wrap64 (sumI l + a) := by
  unfold sumI
  rw [List.foldl_append]
  rfl
theorem siRun_ev {s l st f h : Int} {r : Bool} {x : List Int} (g : asked s l st f h x = true) : Ev (fun k => spec_siRun.f k s l st f h r x) ((runM s l st f h r x).os, (runM s l st f h r x).lv, sumI (runM s l st f h r x).sp) := by
  have a := asked_le g
  unfold spec_siRun.f
  have key := loop_then (σ := Run) (ρ := List Int × List S31 × Int) (f := stepR s l st f x) (I := okR s)
    (l0 := fun k i σ => spec_siRun.l0 (k + 2) σ.os σ.lv (sumI σ.sp) x (x.length : Int) i s l st f σ.h σ.r) (fin := fun _ σ => some (σ.os, σ.lv, sumI σ.sp)) (n := (x.length : Int))
    (r := ((runM s l st f h r x).os, (runM s l st f h r x).lv, sumI (runM s l st f h r x).sp)) (by omega) (okR_step g)
    (fun k i σ h0 h1 hσ => by
      show spec_siRun.l0 (k + 1 + 2) _ _ _ _ _ _ _ _ _ _ _ _ = _
      rw [show k + 1 + 2 = (k + 2) + 1 from rfl]
      simp only [spec_siRun.l0]
      obtain ⟨c1, c2, c3, c4⟩ := hσ
      rw [if_pos h1, if_pos h0, if_pos h1, siTick_ev a.1 c1 (a.2.2.2 i h0 h1) (k + 2) (by omega), Option.bind_some, if_pos (by omega), if_pos (by omega)]
      simp only [stepR, sumI_snoc])
    (fun k i σ hσ hz => by
      show spec_siRun.l0 (k + 1 + 2) _ _ _ _ _ _ _ _ _ _ _ _ = _
      rw [show k + 1 + 2 = (k + 2) + 1 from rfl]
      simp only [spec_siRun.l0]
      rw [if_neg hz]) x.length 0 ⟨h, r, [⟨h, r⟩], [], []⟩ (by omega) (by omega) ⟨a.2.1, by simp, by simp, by simp⟩ (Ev.now _)
  obtain ⟨K, hK⟩ := key
  refine ⟨K + 2, fun k hk => ?_⟩
  obtain ⟨j, rfl⟩ : ∃ j, k = j + 2 := ⟨k - 2, by omega⟩
  exact hK j (by omega)
theorem implRun_ev {s l st f h : Int} {r : Bool} {x : List Int} (g : asked s l st f h x = true) : Ev (fun k => impl_Siphon_run.f k s l st f h r x) ((runM s l st f h r x).lv, (runM s l st f h r x).os, (runM s l st f h r x).sp) := by
  have a := asked_le g
  unfold impl_Siphon_run.f
  exact loop_then (σ := Run) (ρ := List S31 × List Int × List Int) (f := stepR s l st f x) (I := okR s)
    (l0 := fun k i σ => impl_Siphon_run.l0 k x (x.length : Int) i s l st f σ.h σ.r σ.lv σ.os σ.sp) (fin := fun _ σ => some (σ.lv, σ.os, σ.sp)) (n := (x.length : Int))
    (r := ((runM s l st f h r x).lv, (runM s l st f h r x).os, (runM s l st f h r x).sp)) (by omega) (okR_step g)
    (fun k i σ h0 h1 hσ => by
      show impl_Siphon_run.l0 (k + 1) _ _ _ _ _ _ _ _ _ _ _ _ = _
      simp only [impl_Siphon_run.l0]
      obtain ⟨c1, c2, c3, c4⟩ := hσ
      rw [if_pos h1, if_pos h0, if_pos h1, implTick_val a.1 c1 (a.2.2.2 i h0 h1), Option.bind_some, Option.bind_some, if_pos (by simp only [List.length_cons, List.length_nil]; omega), Option.bind_some, if_pos (by simp only [List.length_cons, List.length_nil]; omega), Option.bind_some, if_pos (by simp only [List.length_cons, List.length_nil]; omega)]
      rfl)
    (fun k i σ hσ hz => by
      show impl_Siphon_run.l0 (k + 1) _ _ _ _ _ _ _ _ _ _ _ _ = _
      simp only [impl_Siphon_run.l0]
      rw [if_neg hz]) x.length 0 ⟨h, r, [⟨h, r⟩], [], []⟩ (by omega) (by omega) ⟨a.2.1, by simp, by simp, by simp⟩ (Ev.now _)
theorem runM_len {s l st f h : Int} {r : Bool} {x : List Int} (g : asked s l st f h x = true) : (runM s l st f h r x).lv.length = x.length + 1 ∧ (runM s l st f h r x).os.length = x.length ∧ (runM s l st f h r x).sp.length = x.length := by
  have a := asked_le g
  have key : ∀ (m : Nat) (i : Int) (σ : Run), 0 ≤ i → (x.length : Int) - i = m → okR s i σ → okR s (i + m) (foldFrom (stepR s l st f x) m i σ) := by
    intro m
    induction m with
    | zero => intro i σ h0 h1 hσ; simpa [foldFrom] using hσ
    | succ m ih =>
      intro i σ h0 h1 hσ
      have := ih (i + 1) (stepR s l st f x i σ) (by omega) (by omega) (okR_step g i σ h0 (by omega) hσ)
      rw [show i + 1 + (m : Int) = i + ((m + 1 : Nat) : Int) by omega] at this
      exact this
  have := key x.length 0 ⟨h, r, [⟨h, r⟩], [], []⟩ (by omega) (by omega) ⟨a.2.1, by simp, by simp, by simp⟩
  obtain ⟨_, c2, c3, c4⟩ := this
  unfold runM
  omega
theorem markIntS_ev (l : List Int) (q : Int) (hq0 : 0 ≤ q) (hq1 : q ≤ 100000000) (hl : l.length ≤ 1048576) : Ev (fun k => laws_markIntS.f k l q) (q + (l.length : Int), marks q l.length) := by
  refine mark_ev (l0 := laws_markIntS.l0) (fun k x q i h0 => ?_) q hq0 (by omega) l (by omega)
  simp only [laws_markIntS.l0, if_pos h0]
def bit3 (q : Int) : Bool := Int.tmod q 3 == 0
/-- ascending numbers in levels -/
def marksL (q : Int) (n : Nat) : List S31 := (List.range n).map fun (j : Nat) => ⟨q + 2 * (j : Int), bit3 (q + 2 * (j : Int) + 1)⟩
theorem marksL_length (q : Int) (n : Nat) : (marksL q n).length = n := by simp [marksL]
theorem marksL_get (q : Int) (n : Nat) {i : Int} (h0 : 0 ≤ i) (h1 : i < n) : rd_T31 (marksL q n) i = ⟨q + 2 * i, bit3 (q + 2 * i + 1)⟩ := by
  unfold rd_T31
  rw [getD_eq z31 (by rw [marksL_length]; omega)]
  simp [marksL, Int.toNat_of_nonneg h0]
theorem markLevelS_ev (l : List S31) (q : Int) (hq0 : 0 ≤ q) (hq1 : q ≤ 100000000) (hl : l.length ≤ 1048577) : Ev (fun k => laws_markLevelS.f k l q) (q + 2 * (l.length : Int), marksL q l.length) := by
  have key : ∀ (m : Nat) (x : List S31) (i : Int), x.length = l.length → 0 ≤ i → (l.length : Int) - i = m → (∀ j : Nat, j < i.toNat → x[j]? = (marksL q l.length)[j]?) → Ev (fun k => laws_markLevelS.l0 k x (q + 2 * i) i) (q + 2 * (l.length : Int), marksL q l.length) := by
    intro m
    induction m with
    | zero =>
      intro x i hx h0 hm hj
      refine Ev.step (f := fun _ => some (q + 2 * i, x)) (fun k => by simp only [laws_markLevelS.l0]; rw [if_neg (by omega)]) ?_
      have e1 : q + 2 * i = q + 2 * (l.length : Int) := by omega
      have e2 : x = marksL q l.length := by
        apply List.ext_getElem?
        intro j
        by_cases h : j < l.length
        · exact hj j (by omega)
        · rw [List.getElem?_eq_none (by omega), List.getElem?_eq_none (by rw [marksL_length]; omega)]
      rw [e1, e2]
      exact Ev.now _
    | succ m ih =>
      intro x i hx h0 hm hj
      have hi : i.toNat < x.length := by omega
      refine Ev.step (f := fun k => laws_markLevelS.l0 k (x.set i.toNat ⟨q + 2 * i, bit3 (q + 2 * i + 1)⟩) (q + 2 * (i + 1)) (i + 1)) (fun k => ?_) (ih _ (i + 1) (by rw [List.length_set]; exact hx) (by omega) (by omega) (fun j hlt => ?_))
      · simp only [laws_markLevelS.l0, Option.bind_some]
        rw [if_pos (by omega), if_pos h0, w64 (x := q + 2 * i + 1) (by omega) (by omega), w64 (x := q + 2 * i + 1 + 1) (by omega) (by omega), w64 (x := i + 1) (by omega) (by omega)]
        rw [List.set_set]
        rw [show (rd_T31 (x.set i.toNat ⟨q + 2 * i, (rd_T31 x i).f1⟩) i).f0 = q + 2 * i from by
          unfold rd_T31
          rw [getD_eq z31 (by rw [List.length_set]; exact hi), List.getElem_set_self]]
        unfold bit3
        congr 1
        omega
      · by_cases e : j = i.toNat
        · subst e
          rw [List.getElem?_set_self hi]
          simp only [marksL, List.getElem?_map, List.getElem?_range (show i.toNat < l.length by omega), Option.map_some, Int.toNat_of_nonneg h0]
        · rw [List.getElem?_set_ne (fun e' => e e'.symm)]
          exact hj j (by omega)
  have := key l.length l 0 rfl (by omega) (by omega) (fun j hj => absurd hj (by simp))
  rw [Int.mul_zero, Int.add_zero] at this
  exact this
theorem heldLevelS_ev (q : Int) (n : Nat) (hq0 : 0 ≤ q) (hq1 : q ≤ 100000000) (hl : n ≤ 1048577) : Ev (fun k => laws_heldLevelS.f k (marksL q n) q) (q + 2 * (n : Int)) := by
  have key : ∀ (m : Nat) (i : Int), 0 ≤ i → (n : Int) - i = m → Ev (fun k => laws_heldLevelS.l0 k (marksL q n) (q + 2 * i) i) (q + 2 * (n : Int)) := by
    intro m
    induction m with
    | zero =>
      intro i h0 hm
      refine Ev.step (f := fun _ => some (q + 2 * i)) (fun k => by simp only [laws_heldLevelS.l0]; rw [if_neg (by rw [marksL_length]; omega)]) ?_
      rw [show q + 2 * i = q + 2 * (n : Int) by omega]
      exact Ev.now _
    | succ m ih =>
      intro i h0 hm
      refine Ev.step (f := fun k => laws_heldLevelS.l0 k (marksL q n) (q + 2 * (i + 1)) (i + 1)) (fun k => ?_) (ih (i + 1) (by omega) (by omega))
      simp only [laws_heldLevelS.l0]
      rw [marksL_get q n h0 (by omega), if_pos (by rw [marksL_length]; omega), if_pos h0, if_pos rfl, w64 (x := q + 2 * i + 1) (by omega) (by omega)]
      rw [if_neg (by unfold bit3; simp), w64 (x := q + 2 * i + 1 + 1) (by omega) (by omega), w64 (x := i + 1) (by omega) (by omega)]
      congr 1
      omega
  have := key n 0 (by omega) (by omega)
  rw [Int.mul_zero, Int.add_zero] at this
  exact this
theorem eqLevelS_ev (l : List S31) (hl : l.length ≤ 1048577) : Ev (fun k => laws_eqLevelS.f k l l) true := by
  refine Ev.congr (fun k => ?_) (same_ev (l0 := laws_eqLevelS.l0) (fun k x i => by simp only [laws_eqLevelS.l0, laws_eqLevel.f, if_true, bne_self_eq_false, Option.bind_some]; rfl) l (by omega))
  show laws_eqLevelS.f k l l = _
  unfold laws_eqLevelS.f
  rw [if_pos rfl]
theorem FnExactLevelsOf : ∀ (a0_0 : Int) (a0_1 : Int) (a0_2 : Int) (a0_3 : Int) (a1_0 : Int) (a1_1 : Bool) (l2 : (List Int)), ((Lit.int .i64 a0_0).wf = true) → ((Lit.int .i64 a0_1).wf = true) → ((Lit.int .i64 a0_2).wf = true) → ((Lit.int .i64 a0_3).wf = true) → ((Lit.int .i64 a1_0).wf = true) → (l2.length ≤ maxLen ∧ ∀ y2 ∈ l2, (Lit.int .i64 y2).wf = true) → ∃ k, laws_FnExactLevelsOf.f k a0_0 a0_1 a0_2 a0_3 a1_0 a1_1 l2 = some true := by
  intro s l st f h r x _ _ _ _ _ hx
  refine Ev.rounds (?_ : Ev (fun k => laws_FnExactLevelsOf.f k s l st f h r x) true)
  unfold laws_FnExactLevelsOf.f
  by_cases hl : (x.length : Int) > 1048576
  · exact Ev.ifT hl (Ev.now _)
  refine Ev.ifF hl ?_
  have hl' : x.length ≤ 1048576 := by omega
  have hs : Ev (fun k => spec_LevelsOf.f k s l st f h r x) (if asked s l st f h x = true then ((runM s l st f h r x).lv, true) else ([], false)) := by
    unfold spec_LevelsOf.f
    refine Ev.bind (siAsked_ev s l st f h r x hl') ?_
    try dsimp only
    by_cases g : asked s l st f h x = true
    · rw [if_pos g]
      refine Ev.ifT g (Ev.bind (siRun_ev g) ?_)
      exact Ev.now _
    · rw [if_neg g]
      exact Ev.ifF g (Ev.now _)
  have hi : Ev (fun k => impl_LevelsOf.f k s l st f h r x) (if asked s l st f h x = true then ((runM s l st f h r x).lv, true) else ([], false)) := by
    unfold impl_LevelsOf.f
    rw [isLevel_val]
    refine Ev.now_ ?_
    cases gl : goodL s l st f h with
    | false =>
      rw [if_neg (by unfold asked; rw [gl]; simp)]
      exact Ev.ifF (by decide) (Ev.now _)
    | true =>
      refine Ev.ifT rfl ?_
      rw [areInflows_val]
      refine Ev.now_ ?_
      try dsimp only
      cases gi : (decide (x.length ≤ 100) && allIn x 0 60) with
      | false =>
        rw [if_neg (by unfold asked; rw [gi]; simp)]
        exact Ev.ifF (by decide) (Ev.now _)
      | true =>
        have g : asked s l st f h x = true := by unfold asked; rw [gl, gi]; rfl
        rw [if_pos g]
        refine Ev.ifT rfl (Ev.bind (implRun_ev g) ?_)
        exact Ev.now _
  have ha : (if asked s l st f h x = true then ((runM s l st f h r x).lv, true) else ([], false)).1.length ≤ 1048577 := by
    by_cases g : asked s l st f h x = true
    · rw [if_pos g]
      have := (runM_len (r := r) g).1
      show (runM s l st f h r x).lv.length ≤ 1048577
      omega
    · rw [if_neg g]
      simp
  generalize (if asked s l st f h x = true then ((runM s l st f h r x).lv, true) else ([], false)) = q at hs hi ha
  obtain ⟨a, t⟩ := q
  dsimp only at ha
  unfold laws_toSiphon.f laws_toLevel.f
  refine Ev.now_ ?_
  refine Ev.now_ ?_
  refine Ev.bind (toIntS_ev x hl') ?_
  try dsimp only
  refine Ev.bind hs ?_
  try dsimp only
  refine Ev.bind (toIntS_ev x hl') ?_
  try dsimp only
  refine Ev.now_ ?_
  refine Ev.now_ ?_
  try dsimp only
  refine Ev.bind hi ?_
  try dsimp only
  refine Ev.bind (eqLevelS_ev a ha) ?_
  try dsimp only
  refine Ev.ifT rfl ?_
  refine Ev.step (fun k => rfl) ?_
  refine Ev.ifF (by simp) ?_
  refine Ev.bind (toIntS_ev x hl') ?_
  try dsimp only
  refine Ev.bind (eqIntS_ev x hl') ?_
  try dsimp only
  refine Ev.ifT rfl ?_
  refine Ev.bind (markIntS_ev x 1 (by omega) (by omega) hl') ?_
  try dsimp only
  refine Ev.ifF (by omega) ?_
  refine Ev.bind (eqLevelS_ev a ha) ?_
  try dsimp only
  refine Ev.ifT rfl ?_
  refine Ev.step (fun k => rfl) ?_
  refine Ev.ifF (by simp) ?_
  refine Ev.bind (markLevelS_ev a 1 (by omega) (by omega) ha) ?_
  try dsimp only
  refine Ev.bind (heldLevelS_ev 1 a.length (by omega) (by omega) ha) ?_
  try dsimp only
  refine Ev.ifF (by omega) ?_
  refine Ev.ifT rfl ?_
  unfold laws_toSiphon.f laws_toLevel.f
  refine Ev.now_ ?_
  refine Ev.now_ ?_
  refine Ev.bind (toIntS_ev x hl') ?_
  try dsimp only
  refine Ev.bind hi ?_
  try dsimp only
  refine Ev.bind (eqLevelS_ev a ha) ?_
  try dsimp only
  refine Ev.ifT rfl ?_
  refine Ev.step (fun k => rfl) ?_
  refine Ev.ifF (by simp) ?_
  refine Ev.bind (heldLevelS_ev 1 a.length (by omega) (by omega) ha) ?_
  try dsimp only
  refine Ev.ifF (by omega) ?_
  exact Ev.ifT rfl (Ev.now _)

end Go.Proofs.Ytminippcikenfaa.Pure

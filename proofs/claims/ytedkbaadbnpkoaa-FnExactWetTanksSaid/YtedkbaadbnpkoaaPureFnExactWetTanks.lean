/- The pure statement of the law FnExactWetTanks: what its printed functions compute is true for every input. No conditions. -/
import Derived.Test.YtedkbaadbnpkoaaPFnExactWetTanksx8
import Derived.Test.YtedkbaadbnpkoaaPl
namespace Go.Proofs.Ytedkbaadbnpkoaa.Pure
open Go.RowKit Go.Proofs.Ytedkbaadbnpkoaa.PFnExactWetTanks Go.Proofs.YtedkbaadbnpkoaaW.PrintWords Go.Proofs.YtedkbaadbnpkoaaW.PrintLast Go.Proofs.Ytedkbaadbnpkoaa.Pl
set_option linter.unusedVariables false
set_option linter.unusedSimpArgs false

theorem within_val (x a b : Int) : impl_within.f x a b = some (decide (a ≤ x ∧ x ≤ b)) := by
  unfold impl_within.f
  by_cases h : a ≤ x <;> simp [h]
theorem in_val (x a b : Int) : spec_l1In.f x a b = some (decide (a ≤ x ∧ x ≤ b)) := within_val x a b
theorem eqIntS_ev (l : List Int) (hl : l.length ≤ 1048576) : Ev (fun k => laws_eqIntS.f k l l) true := by
  refine Ev.congr (fun k => ?_) (same_ev (l0 := laws_eqIntS.l0) (fun k x i => by simp only [laws_eqIntS.l0, if_true]) l (by omega))
  show laws_eqIntS.f k l l = _
  unfold laws_eqIntS.f
  rw [if_pos rfl]
theorem szTankS_val (l : List S66) (hl : l.length ≤ 9223372036854775807) : laws_szTankS.f l 1048576 = some (if (1048576 : Int) - (l.length : Int) < 0 then -1 else 1048576 - (l.length : Int)) := by
  unfold laws_szTankS.f
  rw [w64 (x := 1048576 - (l.length : Int)) (by omega) (by omega)]
  split <;> rfl
def toT (l : List S66) : List S63 := l.map fun x => ⟨x.f0, x.f1, x.f2⟩
theorem toT_length (l : List S66) : (toT l).length = l.length := by simp [toT]
theorem toTankS_ev (l : List S66) (hl : l.length ≤ 1048576) : Ev (fun k => laws_toTankS.f k l) (toT l) := by
  have key : ∀ (m : Nat) (i : Int) (y : List S63), 0 ≤ i → (l.length : Int) - i = m → y.length = l.length → (∀ j : Nat, j < i.toNat → y[j]? = (toT l)[j]?) → Ev (fun k => laws_toTankS.l0 k l y i) (toT l) := by
    intro m
    induction m with
    | zero =>
      intro i y h0 hm hyl hj
      refine Ev.step (f := fun _ => some y) (fun k => by simp only [laws_toTankS.l0]; rw [if_neg (by omega)]) ?_
      have : y = toT l := by
        apply List.ext_getElem?
        intro j
        by_cases h : j < l.length
        · exact hj j (by omega)
        · rw [List.getElem?_eq_none (by omega), List.getElem?_eq_none (by rw [toT_length]; omega)]
      rw [this]
      exact Ev.now _
    | succ m ih =>
      intro i y h0 hm hyl hj
      have hi : i.toNat < l.length := by omega
      refine Ev.step (f := fun k => laws_toTankS.l0 k l (y.set i.toNat ⟨(rd_T66 l i).f0, (rd_T66 l i).f1, (rd_T66 l i).f2⟩) (i + 1)) (fun k => ?_) ?_
      · simp only [laws_toTankS.l0, laws_toTank.f, Option.bind_some]
        rw [if_pos (by omega), if_pos h0, if_pos (by omega), w64 (x := i + 1) (by omega) (by omega)]
      · refine ih (i + 1) _ (by omega) (by omega) (by rw [List.length_set]; exact hyl) (fun j hlt => ?_)
        by_cases e : j = i.toNat
        · subst e
          rw [List.getElem?_set_self (by omega)]
          simp only [toT, List.getElem?_map, List.getElem?_eq_getElem hi, Option.map_some]
          unfold rd_T66
          rw [getD_eq z66 hi]
        · rw [List.getElem?_set_ne (fun e' => e e'.symm)]
          exact hj j (by omega)
  unfold laws_toTankS.f
  refine Ev.ifT (by omega) (Ev.ifT (by omega) ?_)
  exact key l.length 0 _ (by omega) (by omega) (by simp) (fun j hj => absurd hj (by simp))
theorem eqTankS_ev (l : List S63) (hl : l.length ≤ 1048576) : Ev (fun k => laws_eqTankS.f k l l) true := by
  refine Ev.congr (fun k => ?_) (same_ev (l0 := laws_eqTankS.l0) (fun k x i => by simp only [laws_eqTankS.l0, laws_eqTank.f, if_true, Option.bind_some]) l (by omega))
  show laws_eqTankS.f k l l = _
  unfold laws_eqTankS.f
  rw [if_pos rfl]
def goodT (l : List S63) : Bool := decide (1 ≤ (l.length : Int) ∧ (l.length : Int) ≤ 6) && !(l.any fun x => !tankOk x)
theorem leTanks_ev (l : List S63) (hl : l.length ≤ 1048576) : Ev (fun k => spec_leTanks.f k l) (goodT l) := by
  have ht : ∀ x : S63, spec_leTank.f x.f0 x.f1 x.f2 = some (tankOk x) := fun x => isTank_val x.f0 x.f1 x.f2
  unfold spec_leTanks.f goodT
  rw [in_val]
  refine Ev.now_ ?_
  by_cases h : 1 ≤ (l.length : Int) ∧ (l.length : Int) ≤ 6
  · rw [decide_eq_true h, Bool.true_and]
    refine Ev.ifT rfl ?_
    have e : (!(l.any fun x => !tankOk x)) = l.all tankOk := by
      rw [List.any_eq_not_all_not, Bool.not_not]
      congr 1
      funext x
      simp
    rw [e]
    refine all_ev (l0 := fun k x i => spec_leTanks.l0 k x (x.length : Int) i) z63 tankOk (fun k x i h0 => ?_) l (by omega)
    show spec_leTanks.l0 (k + 1) x (x.length : Int) i = _
    simp only [spec_leTanks.l0, ht, Option.bind_some]
    by_cases hi : i < (x.length : Int)
    · rw [if_pos hi, if_pos h0, if_pos hi, if_pos hi]
      rfl
    · rw [if_neg hi, if_neg hi]
  · rw [decide_eq_false h, Bool.false_and]
    exact Ev.ifF (by decide) (Ev.now _)
theorem abs_val (x : Int) : spec_l1Abs.f x = some (if x > wrap64 (-x) then x else wrap64 (-x)) := by
  unfold spec_l1Abs.f spec_l1Most.f
  split <;> rfl
theorem common_abs_ev {n d : Int} (hn0 : -9223372036854775807 ≤ n) (hn1 : n ≤ 9223372036854775807) (hd0 : 0 ≤ d) : Ev (fun k => spec_veCommon.f k (if n > wrap64 (-n) then n else wrap64 (-n)) d) (Int.gcd n d : Int) := by
  have hw : wrap64 (-n) = -n := w64 (by omega) (by omega)
  have := common_ev (l0 := spec_veCommon.l0) (fun _ _ _ => rfl) (a := if n > wrap64 (-n) then n else wrap64 (-n)) (b := d) (by rw [hw]; split <;> omega) hd0
  rw [(gcd_abs n d).resolve_right (by omega)] at this
  exact this
theorem low_fit {n d : Int} (hn0 : -9223372036854775807 ≤ n) (hn1 : n ≤ 9223372036854775807) (hd0 : 0 < d) (hd1 : d ≤ 9223372036854775807) :
    wrap64 (Int.tdiv n (Int.gcd n d)) = (low n d).1 ∧ wrap64 (Int.tdiv d (Int.gcd n d)) = (low n d).2 := by
  have h1 := tdiv_bound n (Int.gcd n d)
  have h2 := tdiv_bound d (Int.gcd n d)
  exact ⟨w64 (by omega) (by omega), w64 (by omega) (by omega)⟩
theorem lowest_ev {n d : Int} (hn0 : -9223372036854775807 ≤ n) (hn1 : n ≤ 9223372036854775807) (hd0 : 0 < d) (hd1 : d ≤ 9223372036854775807) : Ev (fun k => impl_lowest.f k n d) (low n d) := by
  obtain ⟨K, h⟩ := gcd_ev (l0 := impl_gcd.l0) (fun _ _ _ => rfl) (a := n) (b := d) hn0 hn1 (by omega) hd1
  dsimp only at h
  have hp := gcd_pos (a := n) (b := d) (by omega)
  refine ⟨K, fun k hk => ?_⟩
  show impl_lowest.f k n d = _
  unfold impl_lowest.f impl_gcd.f
  rw [h k hk, Option.bind_some, if_neg (by omega), if_neg (by omega), (low_fit hn0 hn1 hd0 hd1).1, (low_fit hn0 hn1 hd0 hd1).2]
theorem leRatio_ev {n d : Int} (hn0 : -9223372036854775807 ≤ n) (hn1 : n ≤ 9223372036854775807) (hd0 : 0 < d) (hd1 : d ≤ 9223372036854775807) : Ev (fun k => spec_leRatio.f k n d) (low n d) := by
  obtain ⟨K, h⟩ := common_abs_ev (n := n) (d := d) hn0 hn1 (by omega)
  dsimp only at h
  have hp := gcd_pos (a := n) (b := d) (by omega)
  refine ⟨K, fun k hk => ?_⟩
  show spec_leRatio.f k n d = _
  unfold spec_leRatio.f
  rw [if_neg (by omega), abs_val, Option.bind_some, h k hk, Option.bind_some, if_neg (by omega), (low_fit hn0 hn1 hd0 hd1).1, (low_fit hn0 hn1 hd0 hd1).2]
/-- a tank laid behind those whose floor is no higher, from the right (reversed) -/
def insRev (t : S63) : List S63 → List S63
  | [] => [t]
  | y :: r => if t.f1 < y.f1 then y :: insRev t r else t :: y :: r
def insR (t : S63) (l : List S63) : List S63 := (insRev t l.reverse).reverse
theorem insR_snoc (t y : S63) (p : List S63) : insR t (p ++ [y]) = if t.f1 < y.f1 then insR t p ++ [y] else p ++ [y] ++ [t] := by
  unfold insR
  rw [List.reverse_append]
  simp only [List.reverse_cons, List.reverse_nil, List.nil_append, List.cons_append, insRev]
  split <;> simp
theorem insR_len (t : S63) (l : List S63) : (insR t l).length = l.length + 1 := by
  have h : ∀ r, (insRev t r).length = r.length + 1 := by
    intro r
    induction r with
    | nil => rfl
    | cons y r ih => unfold insRev; split <;> simp [ih]
  unfold insR
  rw [List.length_reverse, h, List.length_reverse]
theorem lt_cmp (x y : S63) : Go.Proofs.ltOf cmpT x y = decide (x.f1 < y.f1) := by
  unfold Go.Proofs.ltOf cmpT
  by_cases h : x.f1 < y.f1
  · simp [h]
  · by_cases h2 : x.f1 > y.f1
    · simp [h, h2]
    · simp [h, h2]
theorem arr_get {l : List S63} {i : Nat} {x : S63} (h : l[i]? = some x) : l.toArray[i]! = x := by
  obtain ⟨hi, hx⟩ := List.getElem?_eq_some_iff.1 h
  rw [getElem!_pos _ i (by simpa using hi)]
  simpa using hx
theorem at_t (p s : List S63) (y t : S63) : (p ++ [y] ++ [t] ++ s)[p.length + 1]? = some t := by simp
theorem at_y (p s : List S63) (y t : S63) : (p ++ [y] ++ [t] ++ s)[p.length]? = some y := by simp
theorem swp_list (p s : List S63) (y t : S63) : Go.Sort.swp (p ++ [y] ++ [t] ++ s).toArray (p.length + 1) p.length = (p ++ [t] ++ [y] ++ s).toArray := by
  unfold Go.Sort.swp
  rw [arr_get (at_t p s y t), arr_get (at_y p s y t), List.setIfInBounds_toArray, List.setIfInBounds_toArray]
  congr 1
  simp only [List.append_assoc, List.cons_append, List.nil_append]
  rw [List.set_append_right _ _ (by omega), List.set_append_right _ _ (by omega)]
  simp
theorem insInner_list (t : S63) : ∀ (n : Nat) (p s : List S63), p.length = n → Go.Sort.insInner (Go.Proofs.ltOf cmpT) 0 n (p ++ [t] ++ s).toArray = (insR t p ++ s).toArray
  | 0, p, s, h => by
    obtain rfl : p = [] := List.eq_nil_of_length_eq_zero h
    simp [Go.Sort.insInner, insR, insRev]
  | n + 1, p, s, h => by
    obtain ⟨p', y, rfl⟩ : ∃ p' y, p = p' ++ [y] := ⟨p.dropLast, p.getLast (by intro e; rw [e] at h; simp at h), (List.dropLast_concat_getLast _).symm⟩
    have hn : p'.length = n := by simp at h; exact h
    unfold Go.Sort.insInner
    have e1 : (p' ++ [y] ++ [t] ++ s).toArray[n + 1]! = t := by rw [← hn]; exact arr_get (at_t p' s y t)
    have e2 : (p' ++ [y] ++ [t] ++ s).toArray[n]! = y := by rw [← hn]; exact arr_get (at_y p' s y t)
    rw [e1, e2, lt_cmp, insR_snoc]
    by_cases hc : t.f1 < y.f1
    · rw [if_pos (by simp [hc]), if_pos hc, ← hn, swp_list, hn]
      have := insInner_list t n p' ([y] ++ s) hn
      simpa using this
    · rw [if_neg (by simp [hc]), if_neg hc]
theorem insOuter_list : ∀ (m : Nat) (P R : List S63), R.length = m → Go.Sort.insOuter (Go.Proofs.ltOf cmpT) 0 (P.length + R.length) P.length (P ++ R).toArray = (R.foldl (fun acc t => insR t acc) P).toArray
  | 0, P, R, h => by
    obtain rfl : R = [] := List.eq_nil_of_length_eq_zero h
    rw [Go.Sort.insOuter, if_neg (by simp)]
    simp
  | m + 1, P, t :: R, h => by
    rw [Go.Sort.insOuter, if_pos (by simp)]
    have e := insInner_list t P.length P R rfl
    rw [show P ++ t :: R = P ++ [t] ++ R by simp, e]
    have e2 := insOuter_list m (insR t P) R (by simpa using h)
    rw [insR_len] at e2
    rw [List.foldl_cons, ← e2]
    simp only [List.length_cons]
    congr 1
    omega
theorem sortT_eq (l : List S63) (h : 1 ≤ l.length) : sortT l = l.foldl (fun acc t => insR t acc) [] := by
  obtain ⟨x, r, rfl⟩ : ∃ x r, l = x :: r := by
    cases l with
    | nil => simp at h
    | cons x r => exact ⟨x, r, rfl⟩
  have e := insOuter_list r.length [x] r rfl
  unfold sortT Go.Sort.insertionSort
  rw [show (x :: r).length = [x].length + r.length by simp; omega]
  show (Go.Sort.insOuter (Go.Proofs.ltOf cmpT) 0 ([x].length + r.length) [x].length ([x] ++ r).toArray).toList = _
  rw [e]
  simp [insR, insRev]
theorem tw_iff {α : Type} {p : α → Bool} : ∀ {l : List α}, l.takeWhile p = l ↔ ∀ z ∈ l, p z = true
  | [] => by simp
  | y :: l => by
    rw [List.takeWhile_cons]
    by_cases h : p y = true
    · rw [if_pos h]
      simp [h, tw_iff (l := l)]
    · rw [if_neg h]
      simp [h]
theorem dw_iff {α : Type} {p : α → Bool} : ∀ {l : List α}, l.dropWhile p = [] ↔ ∀ z ∈ l, p z = true
  | [] => by simp
  | y :: l => by
    rw [List.dropWhile_cons]
    by_cases h : p y = true
    · rw [if_pos h]
      simp [h, dw_iff (l := l)]
    · rw [if_neg h]
      simp [h]
def srt (l : List S63) : Prop := l.Pairwise fun a b => a.f1 ≤ b.f1
theorem mem_insRev {t z : S63} : ∀ {r : List S63}, z ∈ insRev t r → z = t ∨ z ∈ r
  | [], h => by simp [insRev] at h; exact .inl h
  | y :: r, h => by
    unfold insRev at h
    split at h
    · rcases List.mem_cons.1 h with rfl | h
      · exact .inr List.mem_cons_self
      · exact (mem_insRev h).imp id (List.mem_cons_of_mem _)
    · rcases List.mem_cons.1 h with rfl | h
      · exact .inl rfl
      · exact .inr h
theorem mem_insR {t z : S63} {l : List S63} (h : z ∈ insR t l) : z = t ∨ z ∈ l := by
  unfold insR at h
  rw [List.mem_reverse] at h
  exact (mem_insRev h).imp id (by simp)
theorem insRev_srt (t : S63) : ∀ (r : List S63), r.Pairwise (fun a b => b.f1 ≤ a.f1) → (insRev t r).Pairwise (fun a b => b.f1 ≤ a.f1)
  | [], _ => by simp [insRev]
  | y :: r, h => by
    obtain ⟨h1, h2⟩ := List.pairwise_cons.1 h
    unfold insRev
    split
    · rename_i hc
      refine List.pairwise_cons.2 ⟨fun z hz => ?_, insRev_srt t r h2⟩
      rcases mem_insRev hz with rfl | hz
      · omega
      · exact h1 z hz
    · rename_i hc
      refine List.pairwise_cons.2 ⟨fun z hz => ?_, h⟩
      rcases List.mem_cons.1 hz with rfl | hz
      · omega
      · have := h1 z hz
        omega
theorem insR_srt (t : S63) {l : List S63} (h : srt l) : srt (insR t l) := by
  unfold srt insR
  rw [List.pairwise_reverse]
  exact insRev_srt t _ (by rw [List.pairwise_reverse]; exact h)
def insL (t : S63) (l : List S63) : List S63 := l.takeWhile (fun y => decide (y.f1 ≤ t.f1)) ++ [t] ++ l.dropWhile (fun y => decide (y.f1 ≤ t.f1))
theorem insL_eq (t : S63) (l : List S63) (h : srt l) : insL t l = insR t l := by
  obtain ⟨n, hn⟩ : ∃ n, l.length = n := ⟨_, rfl⟩
  induction n generalizing l with
  | zero =>
    obtain rfl := List.eq_nil_of_length_eq_zero hn
    simp [insL, insR, insRev]
  | succ n ih =>
    obtain ⟨p, y, rfl⟩ : ∃ p y, l = p ++ [y] := ⟨l.dropLast, l.getLast (by intro e; rw [e] at hn; simp at hn), (List.dropLast_concat_getLast _).symm⟩
    obtain ⟨h1, _, h2⟩ := List.pairwise_append.1 h
    have h3 : ∀ z ∈ p, z.f1 ≤ y.f1 := fun z hz => h2 z hz y (by simp)
    rw [insR_snoc]
    by_cases hc : t.f1 < y.f1
    · rw [if_pos hc, ← ih p h1 (by simpa using hn)]
      unfold insL
      rw [List.takeWhile_append, List.dropWhile_append]
      have hy : ¬ y.f1 ≤ t.f1 := by omega
      by_cases ha : ∀ z ∈ p, z.f1 ≤ t.f1
      · have e1 : p.takeWhile (fun y => decide (y.f1 ≤ t.f1)) = p := tw_iff.2 (by simpa using ha)
        have e2 : p.dropWhile (fun y => decide (y.f1 ≤ t.f1)) = [] := dw_iff.2 (by simpa using ha)
        rw [e1, e2]
        simp [hy]
      · have e1 : ¬ (p.takeWhile (fun y => decide (y.f1 ≤ t.f1))).length = p.length := by
          intro e
          apply ha
          have e3 : p.takeWhile (fun y => decide (y.f1 ≤ t.f1)) = p := (List.takeWhile_prefix _).eq_of_length e
          simpa using tw_iff.1 e3
        have e2 : ¬ (p.dropWhile (fun y => decide (y.f1 ≤ t.f1))).isEmpty = true := by
          intro e
          apply ha
          have e3 := List.isEmpty_iff.1 e
          simpa using dw_iff.1 e3
        rw [if_neg e1, if_neg e2]
        simp
    · rw [if_neg hc]
      have ha : ∀ z ∈ p ++ [y], z.f1 ≤ t.f1 := by
        intro z hz
        rcases List.mem_append.1 hz with hz | hz
        · have := h3 z hz
          omega
        · rw [List.mem_singleton.1 hz]
          omega
      unfold insL
      rw [tw_iff.2 (by simpa using ha), dw_iff.2 (by simpa using ha)]
      simp
theorem fold_eq (R : List S63) : ∀ (P : List S63), srt P → R.foldl (fun acc t => insL t acc) P = R.foldl (fun acc t => insR t acc) P ∧ srt (R.foldl (fun acc t => insR t acc) P) := by
  induction R with
  | nil => exact fun P h => ⟨rfl, h⟩
  | cons t R ih =>
    intro P h
    rw [List.foldl_cons, List.foldl_cons, insL_eq t P h]
    exact ih _ (insR_srt t h)
theorem mem_fold {R : List S63} : ∀ {P : List S63} {z : S63}, z ∈ R.foldl (fun acc t => insR t acc) P → z ∈ R ∨ z ∈ P := by
  induction R with
  | nil => exact fun h => .inr h
  | cons t R ih =>
    intro P z h
    rw [List.foldl_cons] at h
    rcases ih h with h | h
    · exact .inl (List.mem_cons_of_mem _ h)
    · rcases mem_insR h with rfl | h
      · exact .inl List.mem_cons_self
      · exact .inr h
theorem len_fold (R : List S63) : ∀ (P : List S63), (R.foldl (fun acc t => insR t acc) P).length = P.length + R.length := by
  induction R with
  | nil => exact fun P => by simp
  | cons t R ih =>
    intro P
    rw [List.foldl_cons, ih, insR_len]
    simp
    omega
theorem rdT_get {l : List S63} {i : Int} (h0 : 0 ≤ i) (h1 : i < l.length) : l[i.toNat]? = some (rd_T63 l i) := by
  unfold rd_T63
  rw [List.getD_eq_getElem?_getD, List.getElem?_eq_getElem (by omega)]
  rfl
theorem rdT_mem {l : List S63} {i : Int} (h0 : 0 ≤ i) (h1 : i < l.length) : rd_T63 l i ∈ l := List.mem_of_getElem? (rdT_get h0 h1)
theorem rdT_drop {l : List S63} {i : Int} (h0 : 0 ≤ i) (h1 : i < l.length) : l.drop i.toNat = rd_T63 l i :: l.drop (i + 1).toNat := by
  rw [List.drop_eq_getElem_cons (by omega), show (i + 1).toNat = i.toNat + 1 by omega]
  congr 1
  have h := rdT_get h0 h1
  rw [List.getElem?_eq_getElem (by omega)] at h
  exact Option.some.inj h
/-- how an index is laid behind those whose floor is no higher -/
def insI (X : List S63) (i : Int) (out : List Int) : List Int := out.takeWhile (fun j => decide ((rd_T63 X j).f1 ≤ (rd_T63 X i).f1)) ++ [i] ++ out.dropWhile (fun j => decide ((rd_T63 X j).f1 ≤ (rd_T63 X i).f1))
theorem insI_map (X : List S63) (i : Int) (out : List Int) : (insI X i out).map (rd_T63 X) = insL (rd_T63 X i) (out.map (rd_T63 X)) := by
  unfold insI insL
  rw [List.takeWhile_map, List.dropWhile_map]
  simp [Function.comp_def]
theorem insI_len (X : List S63) (i : Int) (out : List Int) : (insI X i out).length = out.length + 1 := by
  have := congrArg List.length (List.takeWhile_append_dropWhile (p := fun j => decide ((rd_T63 X j).f1 ≤ (rd_T63 X i).f1)) (l := out))
  unfold insI
  simp only [List.length_append, List.length_cons, List.length_nil] at this ⊢
  omega
theorem insI_mem {X : List S63} {i : Int} {out : List Int} {z : Int} (h : z ∈ insI X i out) : z = i ∨ z ∈ out := by
  unfold insI at h
  rcases List.mem_append.1 h with h | h
  · rcases List.mem_append.1 h with h | h
    · exact .inr ((List.takeWhile_prefix _).subset h)
    · exact .inl (by simpa using h)
  · exact .inr ((List.dropWhile_suffix _).subset h)
theorem own_val (l : List Int) (hl : l.length ≤ 1048576) : spec_l1Own.f l = some l := by
  unfold spec_l1Own.f
  simp only [Option.bind_some, List.length_nil, List.nil_append]
  rw [if_pos (by omega)]
theorem orderIn_ev (X : List S63) (hX : X.length ≤ 1000) (out : List Int) (i : Int) (hi0 : 0 ≤ i) (hi1 : i < X.length) (ho : ∀ z ∈ out, 0 ≤ z ∧ z < X.length) (hl : out.length ≤ 1000) {r : List Int}
    (hr : Ev (fun k => spec_leOrder.l0 k X (insI X i out) X (X.length : Int) (i + 1)) r) : ∀ (m : Nat) (q : Int), 0 ≤ q → (out.length : Int) - q = m → (∀ z ∈ out.take q.toNat, (rd_T63 X z).f1 ≤ (rd_T63 X i).f1) →
    Ev (fun k => spec_leOrder.l1 k X out i q X (X.length : Int) i (rd_T63 X i).f0 (rd_T63 X i).f1 (rd_T63 X i).f2) r := by
  intro m
  induction m with
  | zero =>
    intro q h0 hm ha
    have hq : q.toNat = out.length := by omega
    rw [hq, List.take_length] at ha
    have e : insI X i out = out ++ [i] := by
      unfold insI
      rw [tw_iff.2 (by simpa using ha), dw_iff.2 (by simpa using ha)]
      simp
    rw [e] at hr
    refine Ev.step (f := fun k => spec_leOrder.l0 k X (out ++ [i]) X (X.length : Int) (i + 1)) (fun k => ?_) hr
    simp only [spec_leOrder.l1]
    rw [if_neg (by omega), if_pos h0, if_pos (by omega), hq, List.take_length, own_val out (by omega), Option.bind_some, if_pos (by omega), Option.bind_some, List.drop_length, Option.bind_some, if_pos (by simp; omega), w64 (by omega) (by omega)]
    simp
  | succ m ih =>
    intro q h0 hm ha
    have hq : q.toNat < out.length := by omega
    have hrd : rd out q = out[q.toNat] := by
      unfold rd
      exact getD_eq 0 hq
    have hz := ho _ (List.getElem_mem hq)
    rw [← hrd] at hz
    by_cases hc : (rd_T63 X (rd out q)).f1 ≤ (rd_T63 X i).f1
    · refine Ev.step (f := fun k => spec_leOrder.l1 k X out i (q + 1) X (X.length : Int) i (rd_T63 X i).f0 (rd_T63 X i).f1 (rd_T63 X i).f2) (fun k => ?_) (ih (q + 1) (by omega) (by omega) ?_)
      · simp only [spec_leOrder.l1]
        rw [if_pos (by omega), if_pos h0, if_pos hz.1, if_pos hz.2, if_pos hc, w64 (by omega) (by omega)]
      · intro z hz2
        rw [show (q + 1).toNat = q.toNat + 1 by omega, List.take_add_one, List.getElem?_eq_getElem hq] at hz2
        rcases List.mem_append.1 hz2 with h | h
        · exact ha z h
        · have : z = out[q.toNat] := by simpa using h
          rw [this, ← hrd]
          exact hc
    · have e : insI X i out = out.take q.toNat ++ [i] ++ out.drop q.toNat := by
        have ed : out.drop q.toNat = rd out q :: out.drop (q.toNat + 1) := by rw [List.drop_eq_getElem_cons hq, hrd]
        have es : out = out.take q.toNat ++ out.drop q.toNat := (List.take_append_drop _ _).symm
        unfold insI
        generalize hp : (fun j => decide ((rd_T63 X j).f1 ≤ (rd_T63 X i).f1)) = p
        have h1 : ∀ z ∈ out.take q.toNat, p z = true := by
          intro z hz2
          rw [← hp]
          exact decide_eq_true (ha z hz2)
        have h2 : p (rd out q) = false := by
          rw [← hp]
          exact decide_eq_false hc
        have t1 : out.takeWhile p = out.take q.toNat := by
          conv => lhs; rw [es]
          rw [List.takeWhile_append_of_pos h1, ed, List.takeWhile_cons, if_neg (by rw [h2]; decide), List.append_nil]
        have t2 : out.dropWhile p = out.drop q.toNat := by
          conv => lhs; rw [es]
          rw [List.dropWhile_append_of_pos h1, ed, List.dropWhile_cons, if_neg (by rw [h2]; decide)]
        rw [t1, t2]
      rw [e] at hr
      refine Ev.step (f := fun k => spec_leOrder.l0 k X (out.take q.toNat ++ [i] ++ out.drop q.toNat) X (X.length : Int) (i + 1)) (fun k => ?_) hr
      simp only [spec_leOrder.l1]
      have hl1 : (out.take q.toNat).length ≤ 1000 := by rw [List.length_take]; omega
      have hl2 : (out.drop q.toNat).length ≤ 1000 := by rw [List.length_drop]; omega
      rw [if_pos (by omega), if_pos h0, if_pos hz.1, if_pos hz.2, if_neg hc, if_pos (by omega), own_val _ (by omega), Option.bind_some, if_pos (by omega), Option.bind_some, Option.bind_some, if_pos (by rw [List.length_append]; simp only [List.length_cons, List.length_nil]; omega), w64 (by omega) (by omega)]
theorem order_ev (X : List S63) (hX : X.length ≤ 500) : ∀ (m : Nat) (i : Int) (out : List Int), 0 ≤ i → (X.length : Int) - i = m → (out.length : Int) = i → (∀ z ∈ out, 0 ≤ z ∧ z < X.length) →
    ∃ ord : List Int, Ev (fun k => spec_leOrder.l0 k X out X (X.length : Int) i) ord ∧ (∀ z ∈ ord, 0 ≤ z ∧ z < X.length) ∧ ord.length = X.length ∧ ord = (listFrom id m i).foldl (fun acc j => insI X j acc) out ∧ ord.map (rd_T63 X) = (X.drop i.toNat).foldl (fun acc t => insL t acc) (out.map (rd_T63 X)) := by
  intro m
  induction m with
  | zero =>
    intro i out h0 hm hl ho
    refine ⟨out, Ev.step (f := fun _ => some out) (fun k => by simp only [spec_leOrder.l0]; rw [if_neg (by omega)]) (Ev.now _), ho, by omega, rfl, ?_⟩
    rw [List.drop_eq_nil_of_le (by omega)]
    rfl
  | succ m ih =>
    intro i out h0 hm hl ho
    obtain ⟨ord, h1, h2, h3, h4, h5⟩ := ih (i + 1) (insI X i out) (by omega) (by omega) (by rw [insI_len]; omega) (fun z hz => by
      rcases insI_mem hz with rfl | hz
      · omega
      · exact ho z hz)
    refine ⟨ord, ?_, h2, h3, ?_, ?_⟩
    · refine Ev.step (f := fun k => spec_leOrder.l1 k X out i 0 X (X.length : Int) i (rd_T63 X i).f0 (rd_T63 X i).f1 (rd_T63 X i).f2) (fun k => ?_) (orderIn_ev X (by omega) out i h0 (by omega) ho (by omega) h1 out.length 0 (by omega) (by omega) (by simp))
      simp only [spec_leOrder.l0]
      rw [if_pos (by omega), if_pos h0, if_pos (by omega)]
    · rw [h4]
      rfl
    · rw [h5, rdT_drop h0 (by omega), List.foldl_cons, insI_map]
def okT (X : List S63) : Prop := ∀ x ∈ X, 1 ≤ x.f0 ∧ x.f0 ≤ 50 ∧ 0 ≤ x.f1 ∧ x.f1 ≤ 100 ∧ 0 ≤ x.f2 ∧ x.f2 ≤ 10000
theorem tankOk_le {x : S63} (h : tankOk x = true) : 1 ≤ x.f0 ∧ x.f0 ≤ 50 ∧ 0 ≤ x.f1 ∧ x.f1 ≤ 100 ∧ 0 ≤ x.f2 ∧ x.f2 ≤ 10000 := by
  unfold tankOk at h
  simp only [Bool.and_eq_true, decide_eq_true_eq] at h
  omega
theorem goodT_le {X : List S63} (h : goodT X = true) : 1 ≤ X.length ∧ X.length ≤ 6 ∧ okT X := by
  unfold goodT at h
  simp only [Bool.and_eq_true, decide_eq_true_eq, Bool.not_eq_true', List.any_eq_false] at h
  refine ⟨by omega, by omega, fun x hx => tankOk_le ?_⟩
  have := h.2 x hx
  simpa using this
/-- the water of all tanks -/
def wsum (X : List S63) : Int := (X.map fun x => x.f2).sum
theorem wsum_le {X : List S63} (h : okT X) : 0 ≤ wsum X ∧ wsum X ≤ 10000 * X.length := by
  induction X with
  | nil => simp [wsum]
  | cons x X ih =>
    have h1 := h x List.mem_cons_self
    have h2 := ih (fun y hy => h y (List.mem_cons_of_mem _ hy))
    simp only [wsum, List.map_cons, List.sum_cons, List.length_cons] at h2 ⊢
    omega
theorem waterOf_ev (X : List S63) (hX : X.length ≤ 500) (ok : okT X) : Ev (fun k => impl_waterOf.f k X) (wsum X) := by
  have key : ∀ (m : Nat) (i s : Int), 0 ≤ i → (X.length : Int) - i = m → 0 ≤ s → s ≤ 10000 * i → Ev (fun k => impl_waterOf.l0 k s X (X.length : Int) i) (s + wsum (X.drop i.toNat)) := by
    intro m
    induction m with
    | zero =>
      intro i s h0 hm hs0 hs1
      rw [List.drop_eq_nil_of_le (by omega)]
      exact Ev.step (f := fun _ => some (s + wsum [])) (fun k => by simp only [impl_waterOf.l0]; rw [if_neg (by omega)]; simp [wsum]) (Ev.now _)
    | succ m ih =>
      intro i s h0 hm hs0 hs1
      have hk := ok _ (rdT_mem h0 (show i < X.length by omega))
      rw [rdT_drop h0 (by omega)]
      refine Ev.step (f := fun k => impl_waterOf.l0 k (s + (rd_T63 X i).f2) X (X.length : Int) (i + 1)) (fun k => ?_) ?_
      · simp only [impl_waterOf.l0]
        rw [if_pos (by omega), if_pos h0, if_pos (by omega), w64 (x := i + 1) (by omega) (by omega), w64 (by omega) (by omega)]
      · have := ih (i + 1) (s + (rd_T63 X i).f2) (by omega) (by omega) (by omega) (by omega)
        rw [show s + wsum (rd_T63 X i :: X.drop (i + 1).toNat) = s + (rd_T63 X i).f2 + wsum (X.drop (i + 1).toNat) by simp [wsum]; omega]
        exact this
  have := key X.length 0 0 (by omega) (by omega) (by omega) (by omega)
  simpa [impl_waterOf.f] using this
/-- the level of tanks in the order of their floors: s is their water and what lies below it so far, a their area -/
def lev (s a : Int) : List S63 → Int × Int
  | [] => (0, 0)
  | [t] => low (s + t.f0 * t.f1) (a + t.f0)
  | t :: u :: r => if s + t.f0 * t.f1 ≤ (a + t.f0) * u.f1 then low (s + t.f0 * t.f1) (a + t.f0) else lev (s + t.f0 * t.f1) (a + t.f0) (u :: r)
theorem prod_le {x : S63} (h : 1 ≤ x.f0 ∧ x.f0 ≤ 50 ∧ 0 ≤ x.f1 ∧ x.f1 ≤ 100 ∧ 0 ≤ x.f2 ∧ x.f2 ≤ 10000) : 0 ≤ x.f0 * x.f1 ∧ x.f0 * x.f1 ≤ 5000 := by
  have h1 := Int.mul_nonneg (show 0 ≤ x.f0 by omega) (show 0 ≤ x.f1 by omega)
  have h2 : x.f0 * x.f1 ≤ 50 * 100 := Int.mul_le_mul (by omega) (by omega) (by omega) (by omega)
  omega
theorem prod2_le {a f : Int} (h0 : 0 ≤ a) (h1 : a ≤ 50000) (h2 : 0 ≤ f) (h3 : f ≤ 100) : 0 ≤ a * f ∧ a * f ≤ 5000000 := by
  have h4 := Int.mul_nonneg h0 h2
  have h5 : a * f ≤ 50000 * 100 := Int.mul_le_mul h1 h3 h2 (by omega)
  omega
theorem low_mul {n d : Int} (hd : 0 < d) : (low n d).1 * Int.gcd n d = n ∧ (low n d).2 * Int.gcd n d = d :=
  ⟨Int.tdiv_mul_cancel (Int.gcd_dvd_left ..), Int.tdiv_mul_cancel (Int.gcd_dvd_right ..)⟩
theorem low_lt {n d f : Int} (hd : 0 < d) : f * (low n d).2 < (low n d).1 ↔ f * d < n := by
  obtain ⟨h1, h2⟩ := low_mul (n := n) hd
  have hp := gcd_pos (a := n) (b := d) (by omega)
  generalize (Int.gcd n d : Int) = g at h1 h2 hp
  constructor
  · intro h
    have := Int.mul_lt_mul_of_pos_right h hp
    rwa [Int.mul_assoc, h2, h1] at this
  · intro h
    have h3 : f * (low n d).2 * g < (low n d).1 * g := by rw [Int.mul_assoc, h2, h1]; exact h
    exact Int.lt_of_mul_lt_mul_right h3 (by omega)
theorem low_bound {n d : Int} (hn : 0 ≤ n) (hd : 0 < d) : 0 ≤ (low n d).1 ∧ (low n d).1 ≤ n ∧ 0 < (low n d).2 ∧ (low n d).2 ≤ d := by
  have h1 := tdiv_bound n (Int.gcd n d)
  have h2 := tdiv_bound d (Int.gcd n d)
  have h3 := low_den_pos (n := n) hd
  have h4 : 0 ≤ (low n d).1 := Int.tdiv_nonneg hn (Int.natCast_nonneg _)
  unfold low at h3 h4 ⊢
  dsimp only at h3 h4 ⊢
  omega
theorem specLev_ev (X : List S63) (hX : X.length ≤ 500) (ok : okT X) (ord : List Int) (ho : ∀ z ∈ ord, 0 ≤ z ∧ z < X.length) (w : Int) (hw0 : 0 ≤ w) (hw1 : w ≤ 5000000) (hl : ord.length ≤ 500) : ∀ (m : Nat) (i a wt : Int), 0 ≤ i → (ord.length : Int) - i = m + 1 → 0 ≤ a → a ≤ 50 * i → 0 ≤ wt → wt ≤ 5000 * i →
    Ev (fun k => spec_leCommon.l1 k X ord w a wt ord (ord.length : Int) i) (lev (w + wt) a ((ord.map (rd_T63 X)).drop i.toNat)) := by
  have hget : ∀ i : Int, 0 ≤ i → i < ord.length → 0 ≤ rd ord i ∧ rd ord i < X.length ∧ rd_T63 (ord.map (rd_T63 X)) i = rd_T63 X (rd ord i) := by
    intro i h0 h1
    have hq : i.toNat < ord.length := by omega
    have hrd : rd ord i = ord[i.toNat] := by
      unfold rd
      exact getD_eq 0 hq
    have hz := ho _ (List.getElem_mem hq)
    rw [← hrd] at hz
    refine ⟨hz.1, hz.2, ?_⟩
    have h2 := rdT_get (l := ord.map (rd_T63 X)) h0 (by simpa using h1)
    rw [List.getElem?_map, List.getElem?_eq_getElem hq, ← hrd] at h2
    exact (Option.some.inj h2).symm
  intro m
  induction m with
  | zero =>
    intro i a wt h0 hm ha0 ha1 hw2 hw3
    obtain ⟨g1, g2, g3⟩ := hget i h0 (by omega)
    have hk := ok _ (rdT_mem g1 g2)
    have hp := prod_le hk
    rw [rdT_drop h0 (by simp; omega), g3, List.drop_eq_nil_of_le (by simp; omega)]
    generalize hx : rd_T63 X (rd ord i) = x at hk hp
    have hr := leRatio_ev (n := w + (wt + x.f0 * x.f1)) (d := a + x.f0) (by omega) (by omega) (by omega) (by omega)
    refine Ev.step (f := fun k => (spec_leRatio.f k (w + (wt + x.f0 * x.f1)) (a + x.f0)).bind fun bt => some (bt.1, bt.2)) (fun k => ?_) ?_
    · simp only [spec_leCommon.l1, hx]
      rw [if_pos (by omega), if_pos h0, if_pos (by omega), if_pos g1, if_pos g2, w64 (x := i + 1) (by omega) (by omega), if_pos (by omega), w64 (x := x.f0 * x.f1) (by omega) (by omega), w64 (x := wt + x.f0 * x.f1) (by omega) (by omega), w64 (x := a + x.f0) (by omega) (by omega), w64 (x := w + (wt + x.f0 * x.f1)) (by omega) (by omega)]
    · refine Ev.bind hr ?_
      unfold lev
      rw [Int.add_assoc]
      exact Ev.now _
  | succ m ih =>
    intro i a wt h0 hm ha0 ha1 hw2 hw3
    obtain ⟨g1, g2, g3⟩ := hget i h0 (by omega)
    obtain ⟨u1, u2, u3⟩ := hget (i + 1) (by omega) (by omega)
    have hk := ok _ (rdT_mem g1 g2)
    have hp := prod_le hk
    have hku := ok _ (rdT_mem u1 u2)
    have hi2 := ih (i + 1) (a + (rd_T63 X (rd ord i)).f0) (wt + (rd_T63 X (rd ord i)).f0 * (rd_T63 X (rd ord i)).f1) (by omega) (by omega) (by omega) (by omega) (by omega) (by omega)
    rw [rdT_drop (i := i) h0 (by simp; omega), g3]
    rw [rdT_drop (i := i + 1) (by omega) (by simp; omega), u3] at hi2 ⊢
    generalize hx : rd_T63 X (rd ord i) = x at hk hp hi2
    generalize hu : rd_T63 X (rd ord (i + 1)) = u at hku hi2
    have hq := prod2_le (a := a + x.f0) (f := u.f1) (by omega) (by omega) (by omega) (by omega)
    have hr := leRatio_ev (n := w + (wt + x.f0 * x.f1)) (d := a + x.f0) (by omega) (by omega) (by omega) (by omega)
    unfold lev
    rw [show w + wt + x.f0 * x.f1 = w + (wt + x.f0 * x.f1) by omega]
    by_cases hc : w + (wt + x.f0 * x.f1) ≤ (a + x.f0) * u.f1
    · rw [if_pos hc]
      refine Ev.step (f := fun k => (spec_leRatio.f k (w + (wt + x.f0 * x.f1)) (a + x.f0)).bind fun bt => some (bt.1, bt.2)) (fun k => ?_) (Ev.bind hr (Ev.now _))
      simp only [spec_leCommon.l1, w64 (x := i + 1) (show -9223372036854775808 ≤ i + 1 by omega) (by omega), hx, hu]
      rw [if_pos (by omega), if_pos h0, if_pos (by omega), if_pos g1, if_pos g2, if_neg (by omega), if_pos (by omega), if_pos (by omega), if_pos u1, if_pos u2, w64 (x := x.f0 * x.f1) (by omega) (by omega), w64 (x := wt + x.f0 * x.f1) (by omega) (by omega), w64 (x := a + x.f0) (by omega) (by omega), w64 (x := w + (wt + x.f0 * x.f1)) (by omega) (by omega), w64 (x := (a + x.f0) * u.f1) (by omega) (by omega), if_pos hc]
    · rw [if_neg hc]
      refine Ev.step (f := fun k => spec_leCommon.l1 k X ord w (a + x.f0) (wt + x.f0 * x.f1) ord (ord.length : Int) (i + 1)) (fun k => ?_) hi2
      simp only [spec_leCommon.l1, w64 (x := i + 1) (show -9223372036854775808 ≤ i + 1 by omega) (by omega), hx, hu]
      rw [if_pos (by omega), if_pos h0, if_pos (by omega), if_pos g1, if_pos g2, if_neg (by omega), if_pos (by omega), if_pos (by omega), if_pos u1, if_pos u2, w64 (x := x.f0 * x.f1) (by omega) (by omega), w64 (x := wt + x.f0 * x.f1) (by omega) (by omega), w64 (x := a + x.f0) (by omega) (by omega), w64 (x := w + (wt + x.f0 * x.f1)) (by omega) (by omega), w64 (x := (a + x.f0) * u.f1) (by omega) (by omega), if_neg hc]
theorem implLev_ev (T : List S63) (hl : T.length ≤ 500) (ok : okT T) : ∀ (m : Nat) (i s a n d : Int), 0 ≤ i → (T.length : Int) - i = m + 1 → 0 ≤ a → a ≤ 50 * i → 0 ≤ s → s ≤ 5000000 + 5000 * i →
    Ev (fun k => impl_common.l0 k T s a T (T.length : Int) i n d) (lev s a (T.drop i.toNat)) := by
  intro m
  induction m with
  | zero =>
    intro i s a n d h0 hm ha0 ha1 hs0 hs1
    have hk := ok _ (rdT_mem h0 (show i < T.length by omega))
    have hp := prod_le hk
    rw [rdT_drop h0 (by omega), List.drop_eq_nil_of_le (by omega)]
    generalize hx : rd_T63 T i = x at hk hp
    have hr := lowest_ev (n := s + x.f0 * x.f1) (d := a + x.f0) (by omega) (by omega) (by omega) (by omega)
    refine Ev.step (f := fun k => (impl_lowest.f k (s + x.f0 * x.f1) (a + x.f0)).bind fun bt => impl_common.l0 k T (s + x.f0 * x.f1) (a + x.f0) T (T.length : Int) (i + 1) bt.1 bt.2) (fun k => ?_) ?_
    · simp only [impl_common.l0, hx, w64 (x := i + 1) (show -9223372036854775808 ≤ i + 1 by omega) (by omega)]
      rw [if_pos (by omega), if_pos h0, if_pos (by omega), w64 (x := x.f0 * x.f1) (by omega) (by omega), w64 (x := s + x.f0 * x.f1) (by omega) (by omega), w64 (x := a + x.f0) (by omega) (by omega)]
      congr 1
      funext bt
      rw [if_neg (by omega)]
    · refine Ev.bind hr ?_
      unfold lev
      refine Ev.step (f := fun _ => some (low (s + x.f0 * x.f1) (a + x.f0))) (fun k => ?_) (Ev.now _)
      simp only [impl_common.l0]
      rw [if_neg (by omega)]
  | succ m ih =>
    intro i s a n d h0 hm ha0 ha1 hs0 hs1
    have hk := ok _ (rdT_mem h0 (show i < T.length by omega))
    have hp := prod_le hk
    have hku := ok _ (rdT_mem (show 0 ≤ i + 1 by omega) (show i + 1 < T.length by omega))
    have hi2 := fun n d => ih (i + 1) (s + (rd_T63 T i).f0 * (rd_T63 T i).f1) (a + (rd_T63 T i).f0) n d (by omega) (by omega) (by omega) (by omega) (by omega) (by omega)
    rw [rdT_drop (i := i) h0 (by omega)]
    rw [rdT_drop (i := i + 1) (by omega) (by omega)] at hi2 ⊢
    generalize hx : rd_T63 T i = x at hk hp hi2
    generalize hu : rd_T63 T (i + 1) = u at hku hi2
    have hq := prod2_le (a := a + x.f0) (f := u.f1) (by omega) (by omega) (by omega) (by omega)
    have hr := lowest_ev (n := s + x.f0 * x.f1) (d := a + x.f0) (by omega) (by omega) (by omega) (by omega)
    have hb := low_bound (n := s + x.f0 * x.f1) (d := a + x.f0) (by omega) (by omega)
    have hq2 := prod2_le (a := (low (s + x.f0 * x.f1) (a + x.f0)).2) (f := u.f1) (by omega) (by omega) (by omega) (by omega)
    rw [Int.mul_comm] at hq2
    have hlt := low_lt (n := s + x.f0 * x.f1) (d := a + x.f0) (f := u.f1) (by omega)
    rw [Int.mul_comm u.f1 (a + x.f0)] at hlt
    refine Ev.step (f := fun k => (impl_lowest.f k (s + x.f0 * x.f1) (a + x.f0)).bind fun bt => (impl_Ratio_isLess.f u.f1 1 bt.1 bt.2).bind fun t => if t = true then impl_common.l0 k T (s + x.f0 * x.f1) (a + x.f0) T (T.length : Int) (i + 1) bt.1 bt.2 else some (bt.1, bt.2)) (fun k => ?_) ?_
    · simp only [impl_common.l0, w64 (x := i + 1) (show -9223372036854775808 ≤ i + 1 by omega) (by omega), hx, hu]
      rw [if_pos (by omega), if_pos h0, if_pos (by omega), w64 (x := x.f0 * x.f1) (by omega) (by omega), w64 (x := s + x.f0 * x.f1) (by omega) (by omega), w64 (x := a + x.f0) (by omega) (by omega)]
      congr 1
      funext bt
      rw [if_pos (by omega), if_pos (by omega)]
    · refine Ev.bind hr ?_
      unfold lev impl_Ratio_isLess.f
      rw [Int.mul_one, w64 (x := u.f1 * (low (s + x.f0 * x.f1) (a + x.f0)).2) (by omega) (by omega), w64 (x := (low (s + x.f0 * x.f1) (a + x.f0)).1) (by omega) (by omega)]
      simp only [Option.bind_some]
      by_cases hc : s + x.f0 * x.f1 ≤ (a + x.f0) * u.f1
      · rw [if_pos hc]
        exact Ev.ifF (by rw [decide_eq_true_eq, hlt]; omega) (Ev.now _)
      · rw [if_neg hc]
        exact Ev.ifT (by rw [decide_eq_true_eq, hlt]; omega) (hi2 _ _)
/-- the common level -/
def comm (X : List S63) : Int × Int := lev (wsum X) 0 (X.foldl (fun acc t => insR t acc) [])
theorem leCommon_ev (X : List S63) (h1 : 1 ≤ X.length) (hX : X.length ≤ 12) (ok : okT X) : Ev (fun k => spec_leCommon.f k X) (comm X) := by
  obtain ⟨ord, e1, e2, e3, _, e5⟩ := order_ev X (by omega) X.length 0 [] (by omega) (by omega) rfl (by simp)
  have hw := wsum_le ok
  unfold spec_leCommon.f spec_leOrder.f
  refine Ev.bind e1 ?_
  have key : ∀ (m : Nat) (i s : Int), 0 ≤ i → (X.length : Int) - i = m → 0 ≤ s → s ≤ 10000 * i → s + wsum (X.drop i.toNat) = wsum X → Ev (fun k => spec_leCommon.l0 k X ord s X (X.length : Int) i) (comm X) := by
    intro m
    induction m with
    | zero =>
      intro i s h0 hm hs0 hs1 hs2
      rw [List.drop_eq_nil_of_le (by omega)] at hs2
      have hs3 : s = wsum X := by simpa [wsum] using hs2
      have h := specLev_ev X (by omega) ok ord e2 s (by omega) (by omega) (by omega) (ord.length - 1) 0 0 0 (by omega) (by omega) (by omega) (by omega) (by omega) (by omega)
      refine Ev.step (f := fun k => spec_leCommon.l1 k X ord s 0 0 ord (ord.length : Int) 0) (fun k => by simp only [spec_leCommon.l0]; rw [if_neg (by omega)]) ?_
      unfold comm
      rw [← hs3, ← (fold_eq X [] (by simp [srt])).1]
      simp only [Int.add_zero, Int.toNat_zero, List.drop_zero, List.map_nil] at h e5
      rw [← e5]
      exact h
    | succ m ih =>
      intro i s h0 hm hs0 hs1 hs2
      have hk := ok _ (rdT_mem h0 (show i < X.length by omega))
      rw [rdT_drop h0 (by omega)] at hs2
      have hs3 : s + ((rd_T63 X i).f2 + wsum (X.drop (i + 1).toNat)) = wsum X := by simpa [wsum] using hs2
      refine Ev.step (f := fun k => spec_leCommon.l0 k X ord (s + (rd_T63 X i).f2) X (X.length : Int) (i + 1)) (fun k => ?_) (ih (i + 1) _ (by omega) (by omega) (by omega) (by omega) (by omega))
      simp only [spec_leCommon.l0]
      rw [if_pos (by omega), if_pos h0, if_pos (by omega), w64 (x := i + 1) (by omega) (by omega), w64 (by omega) (by omega)]
  exact key X.length 0 0 (by omega) (by omega) (by omega) (by omega) (by simp)
theorem common_ev2 (X : List S63) (h1 : 1 ≤ X.length) (hX : X.length ≤ 12) (ok : okT X) : Ev (fun k => impl_common.f k X) (comm X) := by
  have hw := wsum_le ok
  have hs := len_fold X []
  have hok : okT (sortT X) := by
    rw [sortT_eq X h1]
    intro x hx
    rcases mem_fold hx with h | h
    · exact ok x h
    · simp at h
  rw [← sortT_eq X h1] at hs
  simp only [List.length_nil, Nat.zero_add] at hs
  unfold impl_common.f impl_Tank_89.f
  rw [if_pos ⟨h1, hX⟩]
  refine Ev.now_ ?_
  refine Ev.bind (waterOf_ev X (by omega) ok) ?_
  have h := implLev_ev (sortT X) (by omega) hok ((sortT X).length - 1) 0 (wsum X) 0 0 0 (by omega) (by omega) (by omega) (by omega) (by omega) (by omega)
  unfold comm
  rw [← sortT_eq X h1]
  simpa using h
theorem lev_bound (T : List S63) : ∀ (s a : Int), T ≠ [] → okT T → 0 ≤ s → 0 ≤ a → 0 ≤ (lev s a T).1 ∧ (lev s a T).1 ≤ s + 5000 * T.length ∧ 0 < (lev s a T).2 ∧ (lev s a T).2 ≤ a + 50 * T.length := by
  induction T with
  | nil => intro s a h; exact absurd rfl h
  | cons t T ih =>
    intro s a _ ok hs ha
    have hk := ok t (by simp)
    have hp := prod_le hk
    have hb := low_bound (n := s + t.f0 * t.f1) (d := a + t.f0) (by omega) (by omega)
    cases T with
    | nil =>
      simp only [lev, List.length_cons, List.length_nil]
      omega
    | cons u r =>
      simp only [lev]
      have h := ih (s + t.f0 * t.f1) (a + t.f0) (by simp) (fun x hx => ok x (List.mem_cons_of_mem _ hx)) (by omega) (by omega)
      simp only [List.length_cons] at h ⊢
      split <;> omega
theorem comm_bound {X : List S63} (h1 : 1 ≤ X.length) (hX : X.length ≤ 12) (ok : okT X) : 0 ≤ (comm X).1 ∧ (comm X).1 ≤ 180000 ∧ 0 < (comm X).2 ∧ (comm X).2 ≤ 600 := by
  have hw := wsum_le ok
  have hl := len_fold X []
  have h := lev_bound (X.foldl (fun acc t => insR t acc) []) (wsum X) 0 (by intro e; rw [e] at hl; simp at hl; omega) (fun x hx => by
    rcases mem_fold hx with h | h
    · exact ok x h
    · simp at h) (by omega) (by omega)
  unfold comm
  rw [hl] at h
  simp only [List.length_nil, Nat.zero_add] at h
  omega
/-- the water in a tank when it stands at a level -/
def upOf (x : S63) (L : Int × Int) : Int × Int := if L.1 ≤ x.f1 * L.2 then (0, 1) else low (x.f0 * (L.1 - x.f1 * L.2)) L.2
theorem up_le {x : S63} {L : Int × Int} (hx : 1 ≤ x.f0 ∧ x.f0 ≤ 50 ∧ 0 ≤ x.f1 ∧ x.f1 ≤ 100 ∧ 0 ≤ x.f2 ∧ x.f2 ≤ 10000) (hL : 0 ≤ L.1 ∧ L.1 ≤ 180000 ∧ 0 < L.2 ∧ L.2 ≤ 600) :
    0 ≤ x.f1 * L.2 ∧ x.f1 * L.2 ≤ 60000 ∧ (x.f1 * L.2 ≤ L.1 → 0 ≤ x.f0 * (L.1 - x.f1 * L.2) ∧ x.f0 * (L.1 - x.f1 * L.2) ≤ 9000000) := by
  have h1 := Int.mul_nonneg (show 0 ≤ x.f1 by omega) (show 0 ≤ L.2 by omega)
  have h2 : x.f1 * L.2 ≤ 100 * 600 := Int.mul_le_mul (by omega) (by omega) (by omega) (by omega)
  refine ⟨h1, by omega, fun h => ?_⟩
  have h3 := Int.mul_nonneg (show 0 ≤ x.f0 by omega) (show 0 ≤ L.1 - x.f1 * L.2 by omega)
  have h4 : x.f0 * (L.1 - x.f1 * L.2) ≤ 50 * 180000 := Int.mul_le_mul (by omega) (by omega) (by omega) (by omega)
  omega
theorem up_bound {x : S63} {L : Int × Int} (hx : 1 ≤ x.f0 ∧ x.f0 ≤ 50 ∧ 0 ≤ x.f1 ∧ x.f1 ≤ 100 ∧ 0 ≤ x.f2 ∧ x.f2 ≤ 10000) (hL : 0 ≤ L.1 ∧ L.1 ≤ 180000 ∧ 0 < L.2 ∧ L.2 ≤ 600) :
    0 ≤ (upOf x L).1 ∧ (upOf x L).1 ≤ 9000000 ∧ 0 < (upOf x L).2 ∧ (upOf x L).2 ≤ 600 := by
  obtain ⟨h1, h2, h3⟩ := up_le hx hL
  unfold upOf
  by_cases h : L.1 ≤ x.f1 * L.2
  · rw [if_pos h]
    decide
  · rw [if_neg h]
    have hb := low_bound (n := x.f0 * (L.1 - x.f1 * L.2)) (d := L.2) (h3 (by omega)).1 (by omega)
    have := (h3 (by omega)).2
    omega
theorem low_zero {d : Int} (hd : 0 < d) : low 0 d = (0, 1) := by
  unfold low
  rw [Int.zero_tdiv, Int.gcd_zero_left, Int.natAbs_of_nonneg (by omega), Int.tdiv_self (by omega)]
theorem leUp_ev {x : S63} {L : Int × Int} (hx : 1 ≤ x.f0 ∧ x.f0 ≤ 50 ∧ 0 ≤ x.f1 ∧ x.f1 ≤ 100 ∧ 0 ≤ x.f2 ∧ x.f2 ≤ 10000) (hL : 0 ≤ L.1 ∧ L.1 ≤ 180000 ∧ 0 < L.2 ∧ L.2 ≤ 600) :
    Ev (fun k => spec_leUp.f k x.f0 x.f1 x.f2 L.1 L.2) (upOf x L) := by
  obtain ⟨h1, h2, h3⟩ := up_le hx hL
  unfold spec_leUp.f upOf
  rw [w64 (x := x.f1 * L.2) (by omega) (by omega)]
  by_cases h : L.1 ≤ x.f1 * L.2
  · rw [if_pos h]
    exact Ev.ifT h (Ev.now _)
  · have h4 := h3 (by omega)
    rw [if_neg h]
    refine Ev.ifF h ?_
    rw [w64 (x := L.1 - x.f1 * L.2) (by omega) (by omega), w64 (x := x.f0 * (L.1 - x.f1 * L.2)) (by omega) (by omega)]
    exact Ev.bind (leRatio_ev (n := x.f0 * (L.1 - x.f1 * L.2)) (d := L.2) (by omega) (by omega) (by omega) (by omega)) (Ev.now _)
theorem upTo_ev {x : S63} {L : Int × Int} (hx : 1 ≤ x.f0 ∧ x.f0 ≤ 50 ∧ 0 ≤ x.f1 ∧ x.f1 ≤ 100 ∧ 0 ≤ x.f2 ∧ x.f2 ≤ 10000) (hL : 0 ≤ L.1 ∧ L.1 ≤ 180000 ∧ 0 < L.2 ∧ L.2 ≤ 600) :
    Ev (fun k => impl_Tank_upTo.f k x.f0 x.f1 x.f2 L.1 L.2) (upOf x L) := by
  obtain ⟨h1, h2, h3⟩ := up_le hx hL
  unfold impl_Tank_upTo.f upOf
  rw [w64 (x := x.f1 * L.2) (by omega) (by omega)]
  by_cases h : L.1 ≤ x.f1 * L.2
  · rw [if_pos h, show mx 0 (wrap64 (L.1 - x.f1 * L.2)) = 0 by rw [w64 (by omega) (by omega)]; unfold mx; (repeat' split) <;> omega, Int.mul_zero, w64 (x := 0) (by decide) (by decide), ← low_zero (d := L.2) (by omega)]
    exact Ev.bind (lowest_ev (n := 0) (d := L.2) (by omega) (by omega) (by omega) (by omega)) (Ev.now _)
  · have h4 := h3 (by omega)
    rw [if_neg h, show mx 0 (wrap64 (L.1 - x.f1 * L.2)) = L.1 - x.f1 * L.2 by rw [w64 (by omega) (by omega)]; unfold mx; (repeat' split) <;> omega, w64 (x := x.f0 * (L.1 - x.f1 * L.2)) (by omega) (by omega)]
    exact Ev.bind (lowest_ev (n := x.f0 * (L.1 - x.f1 * L.2)) (d := L.2) (by omega) (by omega) (by omega) (by omega)) (Ev.now _)
/-- ascending numbers in tanks -/
def nextM (x : List S63) (q i : Int) : List S63 :=
  let y := x.set i.toNat ⟨q, (rd_T63 x i).f1, (rd_T63 x i).f2⟩
  let z := y.set i.toNat ⟨(rd_T63 y i).f0, q + 1, (rd_T63 y i).f2⟩
  z.set i.toNat ⟨(rd_T63 z i).f0, (rd_T63 z i).f1, q + 1 + 1⟩
theorem markTankS_ev (l : List S63) (hl : l.length ≤ 1048576) : ∃ y : List S63, Ev (fun k => laws_markTankS.f k l 1) (1 + 3 * (l.length : Int), y) := by
  have key : ∀ (m : Nat) (x : List S63) (i : Int), x.length = l.length → 0 ≤ i → (l.length : Int) - i = m → ∃ y : List S63, Ev (fun k => laws_markTankS.l0 k x (1 + 3 * i) i) (1 + 3 * (l.length : Int), y) := by
    intro m
    induction m with
    | zero =>
      intro x i hx h0 hm
      refine ⟨x, Ev.step (f := fun _ => some (1 + 3 * i, x)) (fun k => by simp only [laws_markTankS.l0]; rw [if_neg (by omega)]) ?_⟩
      rw [show 1 + 3 * i = 1 + 3 * (l.length : Int) by omega]
      exact Ev.now _
    | succ m ih =>
      intro x i hx h0 hm
      obtain ⟨y, h⟩ := ih (nextM x (1 + 3 * i) i) (i + 1) (by unfold nextM; simp only [List.length_set]; exact hx) (by omega) (by omega)
      refine ⟨y, Ev.step (fun k => ?_) h⟩
      simp only [laws_markTankS.l0, Option.bind_some]
      rw [if_pos (by omega), if_pos h0, w64 (x := 1 + 3 * i + 1) (by omega) (by omega), w64 (x := 1 + 3 * i + 1 + 1) (by omega) (by omega), w64 (x := 1 + 3 * i + 1 + 1 + 1) (by omega) (by omega), w64 (x := i + 1) (by omega) (by omega), show 1 + 3 * i + 1 + 1 + 1 = 1 + 3 * (i + 1) by omega]
      rfl
  have := key l.length l 0 rfl (by omega) (by omega)
  rw [Int.mul_zero, Int.add_zero] at this
  exact this
def upR (x : S63) (L : Int × Int) : S44 := ⟨(upOf x L).1, (upOf x L).2⟩
theorem implWater_ev {X : List S63} {L : Int × Int} (hX : X.length ≤ 12) (ok : okT X) (hL : 0 ≤ L.1 ∧ L.1 ≤ 180000 ∧ 0 < L.2 ∧ L.2 ≤ 600) : ∀ (m : Nat) (i : Int) (acc : List S44), 0 ≤ i → (X.length : Int) - i = m → acc.length ≤ 1000 - m →
    Ev (fun k => impl_waterAt.l0 k acc X (X.length : Int) i L.1 L.2) (acc ++ (X.drop i.toNat).map fun x => upR x L) := by
  intro m
  induction m with
  | zero =>
    intro i acc h0 hm ha
    rw [List.drop_eq_nil_of_le (by omega), List.map_nil, List.append_nil]
    exact Ev.step (f := fun _ => some acc) (fun k => by simp only [impl_waterAt.l0]; rw [if_neg (by omega)]) (Ev.now _)
  | succ m ih =>
    intro i acc h0 hm ha
    have hi2 := ih (i + 1) (acc ++ [upR (rd_T63 X i) L]) (by omega) (by omega) (by simp; omega)
    have hk := ok _ (rdT_mem h0 (show i < X.length by omega))
    rw [rdT_drop h0 (by omega), List.map_cons]
    rw [List.append_assoc] at hi2
    refine Ev.step (f := fun k => (impl_Tank_upTo.f k (rd_T63 X i).f0 (rd_T63 X i).f1 (rd_T63 X i).f2 L.1 L.2).bind fun bt => impl_waterAt.l0 k (acc ++ [(⟨bt.1, bt.2⟩ : S44)]) X (X.length : Int) (i + 1) L.1 L.2) (fun k => ?_) (Ev.bind (upTo_ev hk hL) hi2)
    simp only [impl_waterAt.l0]
    rw [if_pos (by omega), if_pos h0, if_pos (by omega), w64 (x := i + 1) (by omega) (by omega)]
    congr 1
    funext bt
    rw [if_pos (by omega)]
theorem areTanks_val (X : List S63) : impl_AreTanks.f X = some (goodT X) := rfl
/-- what WaterAfter answers -/
def after (X : List S63) : List S44 × Bool := if goodT X = true then (X.map fun x => upR x (comm X), true) else ([], false)
theorem implWaterAfter_ev (X : List S63) : Ev (fun k => impl_WaterAfter.f k X) (after X) := by
  unfold impl_WaterAfter.f after
  rw [areTanks_val]
  refine Ev.now_ ?_
  cases hg : goodT X with
  | true =>
    obtain ⟨h1, h2, ok⟩ := goodT_le hg
    refine Ev.ifT rfl (Ev.bind (common_ev2 X h1 (by omega) ok) ?_)
    unfold impl_waterAt.f
    have h := implWater_ev (X := X) (by omega) ok (comm_bound h1 (by omega) ok) X.length 0 [] (by omega) (by omega) (by simp)
    rw [Int.toNat_zero, List.drop_zero, List.nil_append] at h
    exact Ev.bind h (Ev.now _)
  | false => exact Ev.ifF (by decide) (Ev.now _)
theorem markIntS_ev (l : List Int) (q : Int) (hq0 : 0 ≤ q) (hq1 : q ≤ 100000000) (hl : l.length ≤ 1048576) : Ev (fun k => laws_markIntS.f k l q) (q + (l.length : Int), marks q l.length) := by
  refine mark_ev (l0 := laws_markIntS.l0) (fun k x q i h0 => ?_) q hq0 (by omega) l (by omega)
  simp only [laws_markIntS.l0, if_pos h0]
theorem heldIntS_ev (q : Int) (n : Nat) (hq0 : 0 ≤ q) (hq1 : q ≤ 100000000) (hl : n ≤ 1048576) : Ev (fun k => laws_heldIntS.f k (marks q n) q) (q + (n : Int)) := by
  refine held_ev (l0 := laws_heldIntS.l0) (fun k x q i h0 h1 h2 => ?_) (fun k x q i h1 => ?_) q hq0 (by omega) n (by omega)
  · simp only [laws_heldIntS.l0]
    rw [if_pos h1, if_pos h0, if_pos (show rd x i = q from h2)]
  · simp only [laws_heldIntS.l0]
    rw [if_neg h1]
/-- the places of the wet tanks, from place i on -/
def wetL (X : List S63) (L : Int × Int) : Nat → Int → List Int
  | 0, _ => []
  | m + 1, i => (if (upOf (rd_T63 X i) L).1 > 0 then [i] else []) ++ wetL X L m (i + 1)
theorem wetL_len (X : List S63) (L : Int × Int) : ∀ (m : Nat) (i : Int), (wetL X L m i).length ≤ m := by
  intro m
  induction m with
  | zero => intro i; simp [wetL]
  | succ m ih =>
    intro i
    have := ih (i + 1)
    unfold wetL
    rw [List.length_append]
    split <;> simp <;> omega
def wet (X : List S63) : List Int × Bool := if goodT X = true then (wetL X (comm X) X.length 0, true) else ([], false)
theorem specWet_ev {X : List S63} {L : Int × Int} (hX : X.length ≤ 12) (ok : okT X) (hL : 0 ≤ L.1 ∧ L.1 ≤ 180000 ∧ 0 < L.2 ∧ L.2 ≤ 600) : ∀ (m : Nat) (i : Int) (acc : List Int), 0 ≤ i → (X.length : Int) - i = m → acc.length ≤ 1000 - m →
    Ev (fun k => spec_WetTanks.l0 k acc X (X.length : Int) i L.1 L.2) (acc ++ wetL X L m i, true) := by
  intro m
  induction m with
  | zero =>
    intro i acc h0 hm ha
    unfold wetL
    rw [List.append_nil]
    exact Ev.step (f := fun _ => some (acc, true)) (fun k => by simp only [spec_WetTanks.l0]; rw [if_neg (by omega)]) (Ev.now _)
  | succ m ih =>
    intro i acc h0 hm ha
    have hk := ok _ (rdT_mem h0 (show i < X.length by omega))
    unfold wetL
    refine Ev.step (f := fun k => (spec_leUp.f k (rd_T63 X i).f0 (rd_T63 X i).f1 (rd_T63 X i).f2 L.1 L.2).bind fun bt => if bt.1 > 0 then spec_WetTanks.l0 k (acc ++ [i]) X (X.length : Int) (i + 1) L.1 L.2 else spec_WetTanks.l0 k acc X (X.length : Int) (i + 1) L.1 L.2) (fun k => ?_) (Ev.bind (leUp_ev hk hL) ?_)
    · simp only [spec_WetTanks.l0]
      rw [if_pos (by omega), if_pos h0, if_pos (by omega), w64 (x := i + 1) (by omega) (by omega)]
      congr 1
      funext bt
      rw [if_pos (show acc.length < 17592186044416 by omega)]
    · by_cases hc : (upOf (rd_T63 X i) L).1 > 0
      · rw [if_pos hc, ← List.append_assoc]
        exact Ev.ifT hc (ih (i + 1) _ (by omega) (by omega) (by simp; omega))
      · rw [if_neg hc, List.nil_append]
        exact Ev.ifF hc (ih (i + 1) _ (by omega) (by omega) (by omega))
theorem implWet_ev {X : List S63} {L : Int × Int} (b : Bool) (hX : X.length ≤ 12) : ∀ (m : Nat) (i : Int) (acc : List Int), 0 ≤ i → (X.length : Int) - i = m → acc.length ≤ 1000 - m →
    Ev (fun k => impl_WetTanks.l0 k b acc (X.map fun x => upR x L) (X.length : Int) i) (acc ++ wetL X L m i, b) := by
  intro m
  induction m with
  | zero =>
    intro i acc h0 hm ha
    unfold wetL
    rw [List.append_nil]
    exact Ev.step (f := fun _ => some (acc, b)) (fun k => by simp only [impl_WetTanks.l0]; rw [if_neg (by omega)]) (Ev.now _)
  | succ m ih =>
    intro i acc h0 hm ha
    have e : (rd_T44 (X.map fun x => upR x L) i).f0 = (upOf (rd_T63 X i) L).1 := by
      unfold rd_T44 rd_T63
      rw [getD_eq z44 (by simp; omega), getD_eq z63 (by omega), List.getElem_map]
      rfl
    unfold wetL
    refine Ev.step (f := fun k => if (upOf (rd_T63 X i) L).1 > 0 then impl_WetTanks.l0 k b (acc ++ [i]) (X.map fun x => upR x L) (X.length : Int) (i + 1) else impl_WetTanks.l0 k b acc (X.map fun x => upR x L) (X.length : Int) (i + 1)) (fun k => ?_) ?_
    · simp only [impl_WetTanks.l0]
      rw [if_pos (by omega), if_pos h0, if_pos (by rw [List.length_map]; omega), w64 (x := i + 1) (by omega) (by omega), e, if_pos (show acc.length < 17592186044416 by omega)]
    · by_cases hc : (upOf (rd_T63 X i) L).1 > 0
      · rw [if_pos hc, ← List.append_assoc]
        exact Ev.ifT hc (ih (i + 1) _ (by omega) (by omega) (by simp; omega))
      · rw [if_neg hc, List.nil_append]
        exact Ev.ifF hc (ih (i + 1) _ (by omega) (by omega) (by omega))
theorem specWetTanks_ev (X : List S63) (hX : X.length ≤ 1048576) : Ev (fun k => spec_WetTanks.f k X) (wet X) := by
  unfold spec_WetTanks.f wet
  refine Ev.bind (leTanks_ev X hX) ?_
  try dsimp only
  cases hg : goodT X with
  | true =>
    obtain ⟨h1, h2, ok⟩ := goodT_le hg
    refine Ev.ifT rfl (Ev.bind (leCommon_ev X h1 (by omega) ok) ?_)
    have h := specWet_ev (X := X) (by omega) ok (comm_bound h1 (by omega) ok) X.length 0 [] (by omega) (by omega) (by simp)
    rw [List.nil_append] at h
    exact h
  | false => exact Ev.ifF (by decide) (Ev.now _)
theorem implWetTanks_ev (X : List S63) (hX : X.length ≤ 1048576) : Ev (fun k => impl_WetTanks.f k X) (wet X) := by
  unfold impl_WetTanks.f
  refine Ev.bind (implWaterAfter_ev X) ?_
  try dsimp only
  unfold after wet
  cases hg : goodT X with
  | true =>
    obtain ⟨h1, h2, ok⟩ := goodT_le hg
    have h := implWet_ev (X := X) (L := comm X) true (by omega) X.length 0 [] (by omega) (by omega) (by simp)
    rw [List.nil_append] at h
    simpa using h
  | false =>
    refine Ev.step (f := fun _ => some ([], false)) (fun k => ?_) (Ev.now _)
    simp [impl_WetTanks.l0]
theorem FnExactWetTanks : ∀ (l0 : (List S66)), (l0.length ≤ maxLen ∧ ∀ y2 ∈ l0, ((Lit.int .i64 y2.f0).wf = true) ∧ ((Lit.int .i64 y2.f1).wf = true) ∧ ((Lit.int .i64 y2.f2).wf = true)) → ∃ k, laws_FnExactWetTanks.f k l0 = some true := by
  intro t ht
  refine Ev.rounds (?_ : Ev (fun k => laws_FnExactWetTanks.f k t) true)
  have b1 := ht.1
  simp only [maxLen] at b1
  unfold laws_FnExactWetTanks.f
  rw [szTankS_val t (by omega)]
  refine Ev.now_ ?_
  by_cases hn : (1048576 : Int) - (t.length : Int) < 0
  · rw [if_pos hn]
    exact Ev.ifT (by decide) (Ev.now _)
  rw [if_neg hn]
  refine Ev.ifF hn ?_
  have ht1 : t.length ≤ 1048576 := by omega
  have hT1 : (toT t).length ≤ 1048576 := by rw [toT_length]; exact ht1
  have hS := specWetTanks_ev (toT t) hT1
  have hI := implWetTanks_ev (toT t) hT1
  have ha : (wet (toT t)).1.length ≤ 1048576 := by
    unfold wet
    split
    · have := wetL_len (toT t) (comm (toT t)) (toT t).length 0
      dsimp only
      omega
    · simp
  generalize wet (toT t) = q at hS hI ha
  obtain ⟨a, b⟩ := q
  dsimp only at ha
  obtain ⟨y, hM⟩ := markTankS_ev (toT t) hT1
  refine Ev.bind (toTankS_ev t ht1) ?_
  try dsimp only
  refine Ev.bind hS ?_
  try dsimp only
  refine Ev.bind (toTankS_ev t ht1) ?_
  try dsimp only
  refine Ev.bind hI ?_
  try dsimp only
  refine Ev.bind (eqIntS_ev a ha) ?_
  try dsimp only
  refine Ev.ifT rfl (Ev.step (fun k => rfl) ?_)
  refine Ev.ifF (by simp) ?_
  refine Ev.bind (toTankS_ev t ht1) ?_
  try dsimp only
  refine Ev.bind (eqTankS_ev (toT t) hT1) ?_
  try dsimp only
  refine Ev.ifT rfl (Ev.bind hM ?_)
  try dsimp only
  refine Ev.ifF (by omega) ?_
  refine Ev.bind (eqIntS_ev a ha) ?_
  try dsimp only
  refine Ev.ifT rfl (Ev.step (fun k => rfl) ?_)
  refine Ev.ifF (by simp) ?_
  refine Ev.bind (markIntS_ev a 1 (by omega) (by omega) ha) ?_
  try dsimp only
  refine Ev.bind (heldIntS_ev 1 a.length (by omega) (by omega) ha) ?_
  try dsimp only
  refine Ev.ifF (by omega) (Ev.ifT rfl ?_)
  refine Ev.bind (toTankS_ev t ht1) ?_
  try dsimp only
  refine Ev.bind hI ?_
  try dsimp only
  refine Ev.bind (eqIntS_ev a ha) ?_
  try dsimp only
  refine Ev.ifT rfl (Ev.step (fun k => rfl) ?_)
  refine Ev.ifF (by simp) ?_
  refine Ev.bind (heldIntS_ev 1 a.length (by omega) (by omega) ha) ?_
  try dsimp only
  exact Ev.ifF (by omega) (Ev.ifT rfl (Ev.now _))

end Go.Proofs.Ytedkbaadbnpkoaa.Pure

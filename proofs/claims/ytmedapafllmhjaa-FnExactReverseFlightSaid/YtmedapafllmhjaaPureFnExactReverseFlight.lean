/- The pure statement of the law FnExactReverseFlight: what its printed functions compute is true for every input. No conditions. -/
import Derived.Test.YtmedapafllmhjaaPFnExactReverseFlightx6
import Derived.Test.YtmedapafllmhjaaPl
namespace Go.Proofs.Ytmedapafllmhjaa.Pure
open Go.RowKit Go.Proofs.Ytmedapafllmhjaa.PFnExactReverseFlight Go.Proofs.YtmedapafllmhjaaW.PrintWords Go.Proofs.YtmedapafllmhjaaW.PrintLast Go.Proofs.Ytmedapafllmhjaa.Pl
set_option linter.unusedVariables false
set_option linter.unusedSimpArgs false

theorem within_val (x a b : Int) : impl_within.f x a b = some (decide (a ≤ x ∧ x ≤ b)) := by
  unfold impl_within.f
  by_cases h : a ≤ x <;> simp [h]
theorem in_val (x a b : Int) : spec_l1In.f x a b = some (decide (a ≤ x ∧ x ≤ b)) := within_val x a b
theorem toIntS_ev (l : List Int) (hl : l.length ≤ 1048576) : Ev (fun k => laws_toIntS.f k l) l := by
  refine Ev.congr (fun k => ?_) (copy_ev 0 (l0 := laws_toIntS.l0) (fun _ _ _ _ => rfl) l 0 (by omega))
  show laws_toIntS.f k l = _
  unfold laws_toIntS.f
  rw [if_pos (by omega), if_pos (by omega)]
theorem eqIntS_ev (l : List Int) (hl : l.length ≤ 1048576) : Ev (fun k => laws_eqIntS.f k l l) true := by
  refine Ev.congr (fun k => ?_) (same_ev (l0 := laws_eqIntS.l0) (fun k x i => by simp only [laws_eqIntS.l0, if_true]) l (by omega))
  show laws_eqIntS.f k l l = _
  unfold laws_eqIntS.f
  rw [if_pos rfl]
/-- all elements lie in some bounds -/
def allIn (l : List Int) (a b : Int) : Bool := l.all fun x => decide (a ≤ x ∧ x ≤ b)
theorem areWithin_val (l : List Int) (a b : Int) : impl_areWithin.f l a b = some (allIn l a b) := by
  unfold impl_areWithin.f allIn
  congr 1
  rw [List.any_eq_not_all_not, Bool.not_not]
  congr 1
  funext x
  simp
theorem l1All_ev (l : List Int) (a b : Int) (hl : l.length ≤ 1048576) : Ev (fun k => spec_l1All.f k l a b) (allIn l a b) := by
  refine all_ev (l0 := fun k x i => spec_l1All.l0 k a b x (x.length : Int) i) 0 (fun x => decide (a ≤ x ∧ x ≤ b)) (fun k x i h0 => ?_) l (by omega)
  show spec_l1All.l0 (k + 1) a b x (x.length : Int) i = _
  simp only [spec_l1All.l0, in_val, Option.bind_some]
  by_cases hi : i < (x.length : Int)
  · rw [if_pos hi, if_pos h0, if_pos hi, if_pos hi]
    rfl
  · rw [if_neg hi, if_neg hi]
theorem toBoolS_ev (l : List Bool) (hl : l.length ≤ 1048576) : Ev (fun k => laws_toBoolS.f k l) l := by
  refine Ev.congr (fun k => ?_) (copy_ev false (l0 := laws_toBoolS.l0) (fun _ _ _ _ => rfl) l false (by omega))
  show laws_toBoolS.f k l = _
  unfold laws_toBoolS.f
  rw [if_pos (by omega), if_pos (by omega)]
theorem eqBoolS_ev (l : List Bool) (hl : l.length ≤ 1048576) : Ev (fun k => laws_eqBoolS.f k l l) true := by
  refine Ev.congr (fun k => ?_) (same_ev (l0 := laws_eqBoolS.l0) (fun k x i => by simp only [laws_eqBoolS.l0, bne_self_eq_false, Bool.false_eq_true, if_false]) l (by omega))
  show laws_eqBoolS.f k l l = _
  unfold laws_eqBoolS.f
  rw [if_pos rfl]
theorem szFlight_val (l : List Int) (m : List Bool) (hl : l.length ≤ maxLen) (hm : m.length ≤ maxLen) :
    laws_szFlight.f l m 1048576 = some (if (l.length : Int) + m.length ≤ 1048576 then ((1048576 : Int) - (l.length : Int) - (m.length : Int)) else (-1 : Int)) := by
  simp only [maxLen] at hl hm
  unfold laws_szFlight.f laws_szIntS.f laws_szBoolS.f
  rw [w64 (x := 1048576 - (l.length : Int)) (by omega) (by omega)]
  by_cases h : (1048576 : Int) - l.length < 0
  · rw [if_pos h, Option.bind_some, if_pos (by omega), if_neg (by omega)]
  · rw [if_neg h, Option.bind_some, if_neg h, w64 (by omega) (by omega)]
    by_cases h2 : (1048576 : Int) - l.length - m.length < 0
    · rw [if_pos h2, Option.bind_some, if_pos (by omega), if_neg (by omega)]
    · rw [if_neg h2, Option.bind_some, if_neg h2, if_pos (by omega)]
theorem toFlight_ev (l : List Int) (m : List Bool) (hl : l.length ≤ 1048576) (hm : m.length ≤ 1048576) : Ev (fun k => laws_toFlight.f k l m) (l, m) := by
  unfold laws_toFlight.f
  refine Ev.bind (toIntS_ev l hl) ?_
  try dsimp only
  refine Ev.bind (toBoolS_ev m hm) ?_
  exact Ev.now _
theorem eqFlight_ev (l : List Int) (m : List Bool) (hl : l.length ≤ 1048576) (hm : m.length ≤ 1048576) : Ev (fun k => laws_eqFlight.f k l m l m) true := by
  unfold laws_eqFlight.f
  refine Ev.bind (eqIntS_ev l hl) ?_
  try dsimp only
  refine Ev.ifT rfl (Ev.bind (eqBoolS_ev m hm) ?_)
  try dsimp only
  exact Ev.ifT rfl (Ev.now _)
/-- a flight -/
def goodF (l : List Int) (m : List Bool) : Bool := decide (1 ≤ (l.length : Int) ∧ (l.length : Int) ≤ 6) && (decide ((m.length : Int) = l.length) && allIn l 1 20)
theorem isFlight_val (l : List Int) (m : List Bool) : impl_IsFlight.f l m = some (goodF l m) := by
  unfold impl_IsFlight.f goodF
  rw [within_val, Option.bind_some, areWithin_val, Option.bind_some]
  by_cases h1 : 1 ≤ (l.length : Int) ∧ (l.length : Int) ≤ 6
  · rw [decide_eq_true h1, if_pos rfl]
    by_cases h2 : (m.length : Int) = l.length
    · rw [if_pos h2, decide_eq_true h2]; rfl
    · rw [if_neg h2, decide_eq_false h2]; rfl
  · rw [decide_eq_false h1, if_neg (by decide)]; rfl
theorem loGood_ev (l : List Int) (m : List Bool) (hl : l.length ≤ 1048576) : Ev (fun k => spec_loGood.f k l m) (goodF l m) := by
  unfold spec_loGood.f goodF
  simp only [in_val, Option.bind_some]
  by_cases h1 : 1 ≤ (l.length : Int) ∧ (l.length : Int) ≤ 6
  · rw [decide_eq_true h1]
    refine Ev.ifT rfl ?_
    by_cases h2 : (m.length : Int) = l.length
    · rw [decide_eq_true h2]
      refine Ev.ifT h2 (Ev.bind (l1All_ev l 1 20 hl) ?_)
      exact Ev.now _
    · rw [decide_eq_false h2]
      exact Ev.ifF h2 (Ev.now _)
  · rw [decide_eq_false h1]
    exact Ev.ifF (by decide) (Ev.now _)
theorem goodF_le {l : List Int} {m : List Bool} (h : goodF l m = true) : 1 ≤ l.length ∧ l.length ≤ 6 ∧ m.length = l.length ∧ ∀ x ∈ l, 1 ≤ x ∧ x ≤ 20 := by
  unfold goodF allIn at h
  simp only [Bool.and_eq_true, decide_eq_true_eq, List.all_eq_true] at h
  exact ⟨by omega, by omega, by omega, h.2.2⟩
theorem markIntS_ev (l : List Int) (q : Int) (hq0 : 0 ≤ q) (hq1 : q ≤ 100000000) (hl : l.length ≤ 1048576) : Ev (fun k => laws_markIntS.f k l q) (q + (l.length : Int), marks q l.length) := by
  refine mark_ev (l0 := laws_markIntS.l0) (fun k x q i h0 => ?_) q hq0 (by omega) l (by omega)
  simp only [laws_markIntS.l0, if_pos h0]
theorem heldIntS_ev (q : Int) (n : Nat) (hq0 : 0 ≤ q) (hq1 : q ≤ 100000000) (hl : n ≤ 1048576) : Ev (fun k => laws_heldIntS.f k (marks q n) q) (q + (n : Int)) := by
  refine held_ev (l0 := laws_heldIntS.l0) (fun k x q i h0 h1 h2 => ?_) (fun k x q i h1 => ?_) q hq0 (by omega) n (by omega)
  · simp only [laws_heldIntS.l0]
    rw [if_pos h1, if_pos h0, if_pos (show rd x i = q from h2)]
  · simp only [laws_heldIntS.l0]
    rw [if_neg h1]
def bit3 (q : Int) : Bool := Int.tmod q 3 == 0
/-- what markBoolS lays -/
def marksB (q : Int) (n : Nat) : List Bool := (List.range n).map fun (j : Nat) => bit3 (q + (j : Int))
theorem marksB_length (q : Int) (n : Nat) : (marksB q n).length = n := by simp [marksB]
theorem marksB_get (q : Int) (n : Nat) {i : Int} (h0 : 0 ≤ i) (h1 : i < n) : rdOf false (marksB q n) i = bit3 (q + i) := by
  unfold rdOf
  rw [getD_eq false (by rw [marksB_length]; omega)]
  simp [marksB, Int.toNat_of_nonneg h0]
theorem markBoolS_ev (l : List Bool) (q : Int) (hq0 : 0 ≤ q) (hq1 : q ≤ 100000000) (hl : l.length ≤ 1048576) : Ev (fun k => laws_markBoolS.f k l q) (q + (l.length : Int), marksB q l.length) := by
  have key : ∀ (m : Nat) (x : List Bool) (i : Int), x.length = l.length → 0 ≤ i → (l.length : Int) - i = m → (∀ j : Nat, j < i.toNat → x[j]? = (marksB q l.length)[j]?) → Ev (fun k => laws_markBoolS.l0 k x (q + i) i) (q + (l.length : Int), marksB q l.length) := by
    intro m
    induction m with
    | zero =>
      intro x i hx h0 hm hj
      refine Ev.step (f := fun _ => some (q + i, x)) (fun k => by simp only [laws_markBoolS.l0]; rw [if_neg (by omega)]) ?_
      have e2 : x = marksB q l.length := by
        apply List.ext_getElem?
        intro j
        by_cases h : j < l.length
        · exact hj j (by omega)
        · rw [List.getElem?_eq_none (by omega), List.getElem?_eq_none (by rw [marksB_length]; omega)]
      rw [show q + i = q + (l.length : Int) by omega, e2]
      exact Ev.now _
    | succ m ih =>
      intro x i hx h0 hm hj
      have hi : i.toNat < x.length := by omega
      refine Ev.step (f := fun k => laws_markBoolS.l0 k (x.set i.toNat (bit3 (q + i))) (q + (i + 1)) (i + 1)) (fun k => ?_) (ih _ (i + 1) (by rw [List.length_set]; exact hx) (by omega) (by omega) (fun j hlt => ?_))
      · simp only [laws_markBoolS.l0]
        rw [if_pos (by omega), if_pos h0, w64 (x := q + i + 1) (by omega) (by omega), w64 (x := i + 1) (by omega) (by omega), Int.add_assoc]
        rfl
      · by_cases e : j = i.toNat
        · subst e
          rw [List.getElem?_set_self hi]
          simp only [marksB, List.getElem?_map, List.getElem?_range (show i.toNat < l.length by omega), Option.map_some, Int.toNat_of_nonneg h0]
        · rw [List.getElem?_set_ne (fun e' => e e'.symm)]
          exact hj j (by omega)
  have := key l.length l 0 rfl (by omega) (by omega) (fun j hj => absurd hj (by simp))
  rw [Int.add_zero] at this
  exact this
theorem heldBoolS_ev (q : Int) (n : Nat) (hq0 : 0 ≤ q) (hq1 : q ≤ 100000000) (hl : n ≤ 1048576) : Ev (fun k => laws_heldBoolS.f k (marksB q n) q) (q + (n : Int)) := by
  have key : ∀ (m : Nat) (i : Int), 0 ≤ i → (n : Int) - i = m → Ev (fun k => laws_heldBoolS.l0 k (marksB q n) (q + i) i) (q + (n : Int)) := by
    intro m
    induction m with
    | zero =>
      intro i h0 hm
      refine Ev.step (f := fun _ => some (q + i)) (fun k => by simp only [laws_heldBoolS.l0]; rw [if_neg (by rw [marksB_length]; omega)]) ?_
      rw [show q + i = q + (n : Int) by omega]
      exact Ev.now _
    | succ m ih =>
      intro i h0 hm
      refine Ev.step (f := fun k => laws_heldBoolS.l0 k (marksB q n) (q + (i + 1)) (i + 1)) (fun k => ?_) (ih (i + 1) (by omega) (by omega))
      simp only [laws_heldBoolS.l0]
      rw [marksB_get q n h0 (by omega), if_pos (by rw [marksB_length]; omega), if_pos h0, if_neg (by unfold bit3; simp), w64 (x := q + i + 1) (by omega) (by omega), w64 (x := i + 1) (by omega) (by omega), Int.add_assoc]
  have := key n 0 (by omega) (by omega)
  rw [Int.add_zero] at this
  exact this
theorem markFlight_ev (l : List Int) (m : List Bool) (hl : l.length ≤ 1048576) (hm : m.length ≤ 1048576) : Ev (fun k => laws_markFlight.f k l m 1) (1 + (l.length : Int) + (m.length : Int), marks 1 l.length, marksB (1 + (l.length : Int)) m.length) := by
  unfold laws_markFlight.f
  refine Ev.bind (markIntS_ev l 1 (by omega) (by omega) hl) ?_
  try dsimp only
  exact Ev.bind (markBoolS_ev m (1 + (l.length : Int)) (by omega) (by omega) hm) (Ev.now _)
theorem heldFlight_ev (a b : Nat) (ha : a ≤ 1048576) (hb : b ≤ 1048576) : Ev (fun k => laws_heldFlight.f k (marks 1 a) (marksB (1 + (a : Int)) b) 1) (1 + (a : Int) + (b : Int)) := by
  unfold laws_heldFlight.f
  refine Ev.bind (heldIntS_ev 1 a (by omega) (by omega) ha) ?_
  try dsimp only
  refine Ev.ifF (by omega) (Ev.bind (heldBoolS_ev (1 + (a : Int)) b (by omega) (by omega) hb) ?_)
  try dsimp only
  exact Ev.ifF (by omega) (Ev.now _)
theorem rev_ev {α : Type} (d : α) {l0 : Nat → List α → Int → Int → Option (List α)} (h : ∀ k x i j, l0 (k + 1) x i j = if i < j then (if 0 ≤ j then (if j < (x.length : Int) then (if 0 ≤ i then (if i < (x.length : Int) then l0 k ((x.set i.toNat (x.getD j.toNat d)).set j.toNat (x.getD i.toNat d)) (wrap64 (i + 1)) (wrap64 (j - 1)) else none) else none) else none) else none) else some x) :
    ∀ (n : Nat) (p mid s : List α), mid.length ≤ n → p.length = s.length → (p ++ mid ++ s).length ≤ 1000 → Ev (fun k => l0 k (p ++ mid ++ s) (p.length : Int) ((p.length : Int) + (mid.length : Int) - 1)) (p ++ mid.reverse ++ s) := by
  intro n
  induction n with
  | zero =>
    intro p mid s hn hp hl
    obtain rfl : mid = [] := List.eq_nil_of_length_eq_zero (by omega)
    refine Ev.step (f := fun _ => some (p ++ [] ++ s)) (fun k => ?_) (Ev.now _)
    show l0 (k + 1) _ _ _ = _
    rw [h, if_neg (by simp only [List.length_nil]; omega)]
  | succ n ih =>
    intro p mid s hn hp hl
    by_cases h1 : mid.length ≤ 1
    · have e : mid.reverse = mid := by
        match mid, h1 with
        | [], _ => rfl
        | [a], _ => rfl
      rw [e]
      refine Ev.step (f := fun _ => some (p ++ mid ++ s)) (fun k => ?_) (Ev.now _)
      show l0 (k + 1) _ _ _ = _
      rw [h, if_neg (by omega)]
    · obtain ⟨a, r, rfl⟩ : ∃ a r, mid = a :: r := by
        cases mid with
        | nil => simp at h1
        | cons a r => exact ⟨a, r, rfl⟩
      obtain ⟨m, b, rfl⟩ : ∃ m b, r = m ++ [b] := ⟨r.dropLast, r.getLast (by intro e; rw [e] at h1; simp at h1), (List.dropLast_concat_getLast _).symm⟩
      simp only [List.length_cons, List.length_append, List.length_nil] at hn h1 hl
      have hX : p ++ a :: (m ++ [b]) ++ s = p ++ [a] ++ m ++ [b] ++ s := by simp
      have ga : (p ++ [a] ++ m ++ [b] ++ s).getD p.length d = a := by simp [List.getD_eq_getElem?_getD]
      have gb : (p ++ [a] ++ m ++ [b] ++ s).getD (p.length + 1 + m.length) d = b := by
        have e0 : p ++ [a] ++ m ++ [b] ++ s = (p ++ [a] ++ m) ++ b :: s := by simp
        have e1 : p.length + 1 + m.length = (p ++ [a] ++ m).length := by simp; omega
        rw [e0, e1, List.getD_eq_getElem?_getD, List.getElem?_append_right (Nat.le_refl _), Nat.sub_self]
        rfl
      have st : ((p ++ [a] ++ m ++ [b] ++ s).set p.length b).set (p.length + 1 + m.length) a = (p ++ [b]) ++ m ++ ([a] ++ s) := by
        have e0 : p ++ [a] ++ m ++ [b] ++ s = p ++ (a :: (m ++ b :: s)) := by simp
        rw [e0, List.set_append_right _ _ (by omega), Nat.sub_self, List.set_cons_zero, List.set_append_right _ _ (by omega), show p.length + 1 + m.length - p.length = m.length + 1 by omega, List.set_cons_succ, List.set_append_right _ _ (by omega), Nat.sub_self, List.set_cons_zero]
        simp
      have hi := ih (p ++ [b]) m ([a] ++ s) (by omega) (by simp; omega) (by simp; omega)
      have e2 : p ++ [b] ++ m.reverse ++ ([a] ++ s) = p ++ (a :: (m ++ [b])).reverse ++ s := by simp
      rw [e2] at hi
      refine Ev.step (fun k => ?_) hi
      show l0 (k + 1) _ _ _ = _
      rw [hX, h]
      have hj : ((p.length : Int) + ((a :: (m ++ [b])).length : Int) - 1) = ((p.length + 1 + m.length : Nat) : Int) := by simp; omega
      rw [hj, Int.toNat_natCast, Int.toNat_natCast, ga, gb, st, if_pos (by omega), if_pos (by omega), if_pos (by simp; omega), if_pos (by omega), if_pos (by simp; omega), w64 (by omega) (by omega), w64 (by omega) (by omega)]
      rw [show (((p ++ [b]).length : Int)) = (p.length : Int) + 1 by simp, show (p.length : Int) + 1 + (m.length : Int) - 1 = ((p.length + 1 + m.length : Nat) : Int) - 1 by omega]
def answer (s : List Int) (h : List Bool) : List Int × List Bool × Bool := if goodF s h = true then (s.reverse, h.reverse.map (fun x => !x), true) else ([], [], false)
theorem answer_le (s : List Int) (h : List Bool) : (answer s h).1.length ≤ 6 ∧ (answer s h).2.1.length ≤ 6 := by
  unfold answer
  split
  · rename_i h2
    have := goodF_le h2
    simp only [List.length_reverse, List.length_map]
    omega
  · exact ⟨by simp, by simp⟩
theorem impl_ev (s : List Int) (h : List Bool) : Ev (fun k => impl_ReverseFlight.f k s h) (answer s h) := by
  unfold impl_ReverseFlight.f answer
  rw [isFlight_val]
  refine Ev.now_ ?_
  cases hg : goodF s h with
  | false =>
    rw [if_neg (by decide)]
    exact Ev.ifF (by decide) (Ev.now _)
  | true =>
    have hv := goodF_le hg
    rw [if_pos rfl]
    refine Ev.ifT rfl (Ev.ifT (by omega) ?_)
    have r1 := rev_ev (0 : Int) (l0 := slices_Reverse_int_int.l0) (fun _ _ _ _ => rfl) s.length [] s [] (by omega) rfl (by simp; omega)
    have r2 := rev_ev false (l0 := slices_Reverse_bool_bool.l0) (fun _ _ _ _ => rfl) h.length [] h [] (by omega) rfl (by simp; omega)
    simp only [List.nil_append, List.append_nil, List.length_nil] at r1 r2
    have f1 : Ev (fun k => slices_Reverse_int_int.f k s) s.reverse := by
      unfold slices_Reverse_int_int.f
      rw [w64 (x := (s.length : Int) - 1) (by omega) (by omega)]
      simpa using r1
    have f2 : Ev (fun k => slices_Reverse_bool_bool.f k h) h.reverse := by
      unfold slices_Reverse_bool_bool.f
      rw [w64 (x := (h.length : Int) - 1) (by omega) (by omega)]
      simpa using r2
    refine Ev.bind f1 (Ev.bind f2 ?_)
    exact Ev.ifT (by simp) (Ev.now _)
theorem spec_ev (s : List Int) (h : List Bool) (hs : s.length ≤ 1048576) (hh : h.length ≤ 1048576) : Ev (fun k => spec_ReverseFlight.f k s h) (answer s h) := by
  unfold spec_ReverseFlight.f answer
  refine Ev.bind (loGood_ev s h hs) ?_
  try dsimp only
  cases hg : goodF s h with
  | false =>
    rw [if_neg (by decide)]
    exact Ev.ifF (by decide) (Ev.now _)
  | true =>
    have hv := goodF_le hg
    rw [if_pos rfl, w64 (x := (s.length : Int) - 1) (by omega) (by omega)]
    refine Ev.ifT rfl ?_
    have key : ∀ (n : Nat) (a : List Int) (b : List Bool), n ≤ s.length → a.length ≤ 1000 - n → b.length ≤ 1000 - n → Ev (fun k => spec_ReverseFlight.l0 k ((n : Int) - 1) s h a b) (a ++ (s.take n).reverse, b ++ ((h.take n).reverse.map fun x => !x), true) := by
      intro n
      induction n with
      | zero =>
        intro a b _ _ _
        refine Ev.step (f := fun _ => some (a, b, true)) (fun k => by simp only [spec_ReverseFlight.l0]; rw [if_neg (by omega)]) ?_
        simp only [List.take_zero, List.reverse_nil, List.map_nil, List.append_nil]
        exact Ev.now _
      | succ n ih =>
        intro a b hn ha hb
        have e1 : rd s (n : Int) = s[n] := by unfold rd; rw [Int.toNat_natCast]; exact getD_eq 0 (by omega)
        have e2 : rdOf false h (n : Int) = h[n] := by unfold rdOf; rw [Int.toNat_natCast]; exact getD_eq false (by omega)
        have hi := ih (a ++ [s[n]]) (b ++ [!h[n]]) (by omega) (by simp; omega) (by simp; omega)
        have e3 : (s.take (n + 1)).reverse = s[n] :: (s.take n).reverse := by rw [List.take_add_one, List.getElem?_eq_getElem (by omega)]; simp
        have e4 : (h.take (n + 1)).reverse.map (fun x => !x) = (!h[n]) :: ((h.take n).reverse.map fun x => !x) := by rw [List.take_add_one, List.getElem?_eq_getElem (by omega), List.reverse_append, List.map_append]; rfl
        rw [e3, e4]
        simp only [List.append_assoc, List.cons_append, List.nil_append] at hi
        refine Ev.step (fun k => ?_) hi
        simp only [spec_ReverseFlight.l0, show ((n + 1 : Nat) : Int) - 1 = (n : Int) by omega]
        rw [if_pos (by omega), if_pos (by omega), if_pos (by omega), if_pos (by omega), if_pos (by omega), if_pos (by omega), e1, e2, w64 (x := (n : Int) - 1) (by omega) (by omega)]
    have h1 := key s.length [] [] (Nat.le_refl _) (by simp) (by simp)
    rw [List.take_length, List.take_of_length_le (by omega), List.nil_append, List.nil_append] at h1
    exact h1
theorem FnExactReverseFlight : ∀ (l0_0 : (List Int)) (l0_1 : (List Bool)), (l0_0.length ≤ maxLen ∧ ∀ y4 ∈ l0_0, (Lit.int .i64 y4).wf = true) → (l0_1.length ≤ maxLen ∧ ∀ y4 ∈ l0_1, True) → ∃ k, laws_FnExactReverseFlight.f k l0_0 l0_1 = some true := by
  intro s h hs hh
  refine Ev.rounds (?_ : Ev (fun k => laws_FnExactReverseFlight.f k s h) true)
  unfold laws_FnExactReverseFlight.f
  rw [szFlight_val s h hs.1 hh.1]
  by_cases hl : (s.length : Int) + (h.length : Int) ≤ 1048576
  · have ha := answer_le s h
    have hS := spec_ev s h (by omega) (by omega)
    have hI := impl_ev s h
    generalize answer s h = r at ha hS hI
    obtain ⟨a, b, t⟩ := r
    dsimp only at ha
    rw [if_pos hl]
    simp only [Option.bind_some]
    refine Ev.ifF (by omega) ?_
    refine Ev.bind (toFlight_ev s h (by omega) (by omega)) ?_
    try dsimp only
    refine Ev.bind hS ?_
    try dsimp only
    refine Ev.bind (toFlight_ev s h (by omega) (by omega)) ?_
    try dsimp only
    refine Ev.bind hI ?_
    try dsimp only
    refine Ev.bind (eqFlight_ev a b (by omega) (by omega)) ?_
    try dsimp only
    refine Ev.ifT rfl (Ev.step (fun k => rfl) ?_)
    refine Ev.ifF (by simp) ?_
    refine Ev.bind (toFlight_ev s h (by omega) (by omega)) ?_
    try dsimp only
    refine Ev.bind (eqFlight_ev s h (by omega) (by omega)) ?_
    try dsimp only
    refine Ev.ifT rfl ?_
    refine Ev.bind (markFlight_ev s h (by omega) (by omega)) ?_
    try dsimp only
    refine Ev.ifF (by omega) ?_
    refine Ev.bind (eqFlight_ev a b (by omega) (by omega)) ?_
    try dsimp only
    refine Ev.ifT rfl (Ev.step (fun k => rfl) ?_)
    refine Ev.ifF (by simp) ?_
    refine Ev.bind (markFlight_ev a b (by omega) (by omega)) ?_
    try dsimp only
    refine Ev.bind (heldFlight_ev a.length b.length (by omega) (by omega)) ?_
    try dsimp only
    refine Ev.ifF (by omega) (Ev.ifT rfl ?_)
    refine Ev.bind (toFlight_ev s h (by omega) (by omega)) ?_
    try dsimp only
    refine Ev.bind hI ?_
    try dsimp only
    refine Ev.bind (eqFlight_ev a b (by omega) (by omega)) ?_
    try dsimp only
    refine Ev.ifT rfl (Ev.step (fun k => rfl) ?_)
    refine Ev.ifF (by simp) ?_
    refine Ev.bind (heldFlight_ev a.length b.length (by omega) (by omega)) ?_
    try dsimp only
    exact Ev.ifF (by omega) (Ev.ifT rfl (Ev.now _))
  · rw [if_neg hl]
    simp only [Option.bind_some]
    exact Ev.ifT (by decide) (Ev.now _)

end Go.Proofs.Ytmedapafllmhjaa.Pure

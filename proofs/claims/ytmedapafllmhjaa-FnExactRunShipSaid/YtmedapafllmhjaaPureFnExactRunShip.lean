/- The pure statement of the law FnExactRunShip: what its printed functions compute is true for every input. No conditions. -/
import Derived.Test.YtmedapafllmhjaaPFnExactRunShipx6
import Derived.Test.YtmedapafllmhjaaPl
namespace Go.Proofs.Ytmedapafllmhjaa.Pure
open Go.RowKit Go.Proofs.Ytmedapafllmhjaa.PFnExactRunShip Go.Proofs.YtmedapafllmhjaaW.PrintWords Go.Proofs.YtmedapafllmhjaaW.PrintLast Go.Proofs.Ytmedapafllmhjaa.Pl
set_option linter.unusedVariables false
set_option linter.unusedSimpArgs false

theorem within_val (x a b : Int) : impl_within.f x a b = some (decide (a ≤ x ∧ x ≤ b)) := by
  unfold impl_within.f
  by_cases h : a ≤ x <;> simp [h]
theorem in_val (x a b : Int) : spec_l1In.f x a b = some (decide (a ≤ x ∧ x ≤ b)) := within_val x a b
theorem toIntS_ev (l : List Int) (hl : l.length ≤ 1048576) : Ev (fun k => laws_toIntS.f k l) l := by
  refine Ev.congr (fun k => ?_) (copy_ev 0 (l0 := laws_toIntS.l0) (fun _ _ _ _ => rfl) l 0 (by omega))
  show laws_toIntS.f k l = _
  unfold laws_toIntS.f
  rw [if_pos (by omega), if_pos (by omega)]
theorem eqIntS_ev (l : List Int) (hl : l.length ≤ 1048576) : Ev (fun k => laws_eqIntS.f k l l) true := by
  refine Ev.congr (fun k => ?_) (same_ev (l0 := laws_eqIntS.l0) (fun k x i => by simp only [laws_eqIntS.l0, if_true]) l (by omega))
  show laws_eqIntS.f k l l = _
  unfold laws_eqIntS.f
  rw [if_pos rfl]
/-- all elements lie in some bounds -/
def allIn (l : List Int) (a b : Int) : Bool := l.all fun x => decide (a ≤ x ∧ x ≤ b)
theorem areWithin_val (l : List Int) (a b : Int) : impl_areWithin.f l a b = some (allIn l a b) := by
  unfold impl_areWithin.f allIn
  congr 1
  rw [List.any_eq_not_all_not, Bool.not_not]
  congr 1
  funext x
  simp
theorem l1All_ev (l : List Int) (a b : Int) (hl : l.length ≤ 1048576) : Ev (fun k => spec_l1All.f k l a b) (allIn l a b) := by
  refine all_ev (l0 := fun k x i => spec_l1All.l0 k a b x (x.length : Int) i) 0 (fun x => decide (a ≤ x ∧ x ≤ b)) (fun k x i h0 => ?_) l (by omega)
  show spec_l1All.l0 (k + 1) a b x (x.length : Int) i = _
  simp only [spec_l1All.l0, in_val, Option.bind_some]
  by_cases hi : i < (x.length : Int)
  · rw [if_pos hi, if_pos h0, if_pos hi, if_pos hi]
    rfl
  · rw [if_neg hi, if_neg hi]
theorem toBoolS_ev (l : List Bool) (hl : l.length ≤ 1048576) : Ev (fun k => laws_toBoolS.f k l) l := by
  refine Ev.congr (fun k => ?_) (copy_ev false (l0 := laws_toBoolS.l0) (fun _ _ _ _ => rfl) l false (by omega))
  show laws_toBoolS.f k l = _
  unfold laws_toBoolS.f
  rw [if_pos (by omega), if_pos (by omega)]
theorem eqBoolS_ev (l : List Bool) (hl : l.length ≤ 1048576) : Ev (fun k => laws_eqBoolS.f k l l) true := by
  refine Ev.congr (fun k => ?_) (same_ev (l0 := laws_eqBoolS.l0) (fun k x i => by simp only [laws_eqBoolS.l0, bne_self_eq_false, Bool.false_eq_true, if_false]) l (by omega))
  show laws_eqBoolS.f k l l = _
  unfold laws_eqBoolS.f
  rw [if_pos rfl]
theorem szFlight_val (l : List Int) (m : List Bool) (hl : l.length ≤ maxLen) (hm : m.length ≤ maxLen) :
    laws_szFlight.f l m 1048576 = some (if (l.length : Int) + m.length ≤ 1048576 then ((1048576 : Int) - (l.length : Int) - (m.length : Int)) else (-1 : Int)) := by
  simp only [maxLen] at hl hm
  unfold laws_szFlight.f laws_szIntS.f laws_szBoolS.f
  rw [w64 (x := 1048576 - (l.length : Int)) (by omega) (by omega)]
  by_cases h : (1048576 : Int) - l.length < 0
  · rw [if_pos h, Option.bind_some, if_pos (by omega), if_neg (by omega)]
  · rw [if_neg h, Option.bind_some, if_neg h, w64 (by omega) (by omega)]
    by_cases h2 : (1048576 : Int) - l.length - m.length < 0
    · rw [if_pos h2, Option.bind_some, if_pos (by omega), if_neg (by omega)]
    · rw [if_neg h2, Option.bind_some, if_neg h2, if_pos (by omega)]
theorem toFlight_ev (l : List Int) (m : List Bool) (hl : l.length ≤ 1048576) (hm : m.length ≤ 1048576) : Ev (fun k => laws_toFlight.f k l m) (l, m) := by
  unfold laws_toFlight.f
  refine Ev.bind (toIntS_ev l hl) ?_
  try dsimp only
  refine Ev.bind (toBoolS_ev m hm) ?_
  exact Ev.now _
theorem eqFlight_ev (l : List Int) (m : List Bool) (hl : l.length ≤ 1048576) (hm : m.length ≤ 1048576) : Ev (fun k => laws_eqFlight.f k l m l m) true := by
  unfold laws_eqFlight.f
  refine Ev.bind (eqIntS_ev l hl) ?_
  try dsimp only
  refine Ev.ifT rfl (Ev.bind (eqBoolS_ev m hm) ?_)
  try dsimp only
  exact Ev.ifT rfl (Ev.now _)
/-- a flight -/
def goodF (l : List Int) (m : List Bool) : Bool := decide (1 ≤ (l.length : Int) ∧ (l.length : Int) ≤ 6) && (decide ((m.length : Int) = l.length) && allIn l 1 20)
theorem isFlight_val (l : List Int) (m : List Bool) : impl_IsFlight.f l m = some (goodF l m) := by
  unfold impl_IsFlight.f goodF
  rw [within_val, Option.bind_some, areWithin_val, Option.bind_some]
  by_cases h1 : 1 ≤ (l.length : Int) ∧ (l.length : Int) ≤ 6
  · rw [decide_eq_true h1, if_pos rfl]
    by_cases h2 : (m.length : Int) = l.length
    · rw [if_pos h2, decide_eq_true h2]; rfl
    · rw [if_neg h2, decide_eq_false h2]; rfl
  · rw [decide_eq_false h1, if_neg (by decide)]; rfl
theorem loGood_ev (l : List Int) (m : List Bool) (hl : l.length ≤ 1048576) : Ev (fun k => spec_loGood.f k l m) (goodF l m) := by
  unfold spec_loGood.f goodF
  simp only [in_val, Option.bind_some]
  by_cases h1 : 1 ≤ (l.length : Int) ∧ (l.length : Int) ≤ 6
  · rw [decide_eq_true h1]
    refine Ev.ifT rfl ?_
    by_cases h2 : (m.length : Int) = l.length
    · rw [decide_eq_true h2]
      refine Ev.ifT h2 (Ev.bind (l1All_ev l 1 20 hl) ?_)
      exact Ev.now _
    · rw [decide_eq_false h2]
      exact Ev.ifF h2 (Ev.now _)
  · rw [decide_eq_false h1]
    exact Ev.ifF (by decide) (Ev.now _)
theorem goodF_le {l : List Int} {m : List Bool} (h : goodF l m = true) : 1 ≤ l.length ∧ l.length ≤ 6 ∧ m.length = l.length ∧ ∀ x ∈ l, 1 ≤ x ∧ x ≤ 20 := by
  unfold goodF allIn at h
  simp only [Bool.and_eq_true, decide_eq_true_eq, List.all_eq_true] at h
  exact ⟨by omega, by omega, by omega, h.2.2⟩
theorem markIntS_ev (l : List Int) (q : Int) (hq0 : 0 ≤ q) (hq1 : q ≤ 100000000) (hl : l.length ≤ 1048576) : Ev (fun k => laws_markIntS.f k l q) (q + (l.length : Int), marks q l.length) := by
  refine mark_ev (l0 := laws_markIntS.l0) (fun k x q i h0 => ?_) q hq0 (by omega) l (by omega)
  simp only [laws_markIntS.l0, if_pos h0]
theorem heldIntS_ev (q : Int) (n : Nat) (hq0 : 0 ≤ q) (hq1 : q ≤ 100000000) (hl : n ≤ 1048576) : Ev (fun k => laws_heldIntS.f k (marks q n) q) (q + (n : Int)) := by
  refine held_ev (l0 := laws_heldIntS.l0) (fun k x q i h0 h1 h2 => ?_) (fun k x q i h1 => ?_) q hq0 (by omega) n (by omega)
  · simp only [laws_heldIntS.l0]
    rw [if_pos h1, if_pos h0, if_pos (show rd x i = q from h2)]
  · simp only [laws_heldIntS.l0]
    rw [if_neg h1]
def bit3 (q : Int) : Bool := Int.tmod q 3 == 0
/-- what markBoolS lays -/
def marksB (q : Int) (n : Nat) : List Bool := (List.range n).map fun (j : Nat) => bit3 (q + (j : Int))
theorem marksB_length (q : Int) (n : Nat) : (marksB q n).length = n := by simp [marksB]
theorem marksB_get (q : Int) (n : Nat) {i : Int} (h0 : 0 ≤ i) (h1 : i < n) : rdOf false (marksB q n) i = bit3 (q + i) := by
  unfold rdOf
  rw [getD_eq false (by rw [marksB_length]; omega)]
  simp [marksB, Int.toNat_of_nonneg h0]
theorem markBoolS_ev (l : List Bool) (q : Int) (hq0 : 0 ≤ q) (hq1 : q ≤ 100000000) (hl : l.length ≤ 1048576) : Ev (fun k => laws_markBoolS.f k l q) (q + (l.length : Int), marksB q l.length) := by
  have key : ∀ (m : Nat) (x : List Bool) (i : Int), x.length = l.length → 0 ≤ i → (l.length : Int) - i = m → (∀ j : Nat, j < i.toNat → x[j]? = (marksB q l.length)[j]?) → Ev (fun k => laws_markBoolS.l0 k x (q + i) i) (q + (l.length : Int), marksB q l.length) := by
    intro m
    induction m with
    | zero =>
      intro x i hx h0 hm hj
      refine Ev.step (f := fun _ => some (q + i, x)) (fun k => by simp only [laws_markBoolS.l0]; rw [if_neg (by omega)]) ?_
      have e2 : x = marksB q l.length := by
        apply List.ext_getElem?
        intro j
        by_cases h : j < l.length
        · exact hj j (by omega)
        · rw [List.getElem?_eq_none (by omega), List.getElem?_eq_none (by rw [marksB_length]; omega)]
      rw [show q + i = q + (l.length : Int) by omega, e2]
      exact Ev.now _
    | succ m ih =>
      intro x i hx h0 hm hj
      have hi : i.toNat < x.length := by omega
      refine Ev.step (f := fun k => laws_markBoolS.l0 k (x.set i.toNat (bit3 (q + i))) (q + (i + 1)) (i + 1)) (fun k => ?_) (ih _ (i + 1) (by rw [List.length_set]; exact hx) (by omega) (by omega) (fun j hlt => ?_))
      · simp only [laws_markBoolS.l0]
        rw [if_pos (by omega), if_pos h0, w64 (x := q + i + 1) (by omega) (by omega), w64 (x := i + 1) (by omega) (by omega), Int.add_assoc]
        rfl
      · by_cases e : j = i.toNat
        · subst e
          rw [List.getElem?_set_self hi]
          simp only [marksB, List.getElem?_map, List.getElem?_range (show i.toNat < l.length by omega), Option.map_some, Int.toNat_of_nonneg h0]
        · rw [List.getElem?_set_ne (fun e' => e e'.symm)]
          exact hj j (by omega)
  have := key l.length l 0 rfl (by omega) (by omega) (fun j hj => absurd hj (by simp))
  rw [Int.add_zero] at this
  exact this
theorem heldBoolS_ev (q : Int) (n : Nat) (hq0 : 0 ≤ q) (hq1 : q ≤ 100000000) (hl : n ≤ 1048576) : Ev (fun k => laws_heldBoolS.f k (marksB q n) q) (q + (n : Int)) := by
  have key : ∀ (m : Nat) (i : Int), 0 ≤ i → (n : Int) - i = m → Ev (fun k => laws_heldBoolS.l0 k (marksB q n) (q + i) i) (q + (n : Int)) := by
    intro m
    induction m with
    | zero =>
      intro i h0 hm
      refine Ev.step (f := fun _ => some (q + i)) (fun k => by simp only [laws_heldBoolS.l0]; rw [if_neg (by rw [marksB_length]; omega)]) ?_
      rw [show q + i = q + (n : Int) by omega]
      exact Ev.now _
    | succ m ih =>
      intro i h0 hm
      refine Ev.step (f := fun k => laws_heldBoolS.l0 k (marksB q n) (q + (i + 1)) (i + 1)) (fun k => ?_) (ih (i + 1) (by omega) (by omega))
      simp only [laws_heldBoolS.l0]
      rw [marksB_get q n h0 (by omega), if_pos (by rw [marksB_length]; omega), if_pos h0, if_neg (by unfold bit3; simp), w64 (x := q + i + 1) (by omega) (by omega), w64 (x := i + 1) (by omega) (by omega), Int.add_assoc]
  have := key n 0 (by omega) (by omega)
  rw [Int.add_zero] at this
  exact this
theorem markFlight_ev (l : List Int) (m : List Bool) (hl : l.length ≤ 1048576) (hm : m.length ≤ 1048576) : Ev (fun k => laws_markFlight.f k l m 1) (1 + (l.length : Int) + (m.length : Int), marks 1 l.length, marksB (1 + (l.length : Int)) m.length) := by
  unfold laws_markFlight.f
  refine Ev.bind (markIntS_ev l 1 (by omega) (by omega) hl) ?_
  try dsimp only
  exact Ev.bind (markBoolS_ev m (1 + (l.length : Int)) (by omega) (by omega) hm) (Ev.now _)
theorem heldFlight_ev (a b : Nat) (ha : a ≤ 1048576) (hb : b ≤ 1048576) : Ev (fun k => laws_heldFlight.f k (marks 1 a) (marksB (1 + (a : Int)) b) 1) (1 + (a : Int) + (b : Int)) := by
  unfold laws_heldFlight.f
  refine Ev.bind (heldIntS_ev 1 a (by omega) (by omega) ha) ?_
  try dsimp only
  refine Ev.ifF (by omega) (Ev.bind (heldBoolS_ev (1 + (a : Int)) b (by omega) (by omega) hb) ?_)
  try dsimp only
  exact Ev.ifF (by omega) (Ev.now _)
theorem putS_len (s : PS) (i : Int) (b : Bool) : (putS s i b).fu.length = s.fu.length := by
  unfold putS
  split
  · rfl
  · split <;> exact List.length_set
theorem passS_len (s : PS) (i : Int) (b : Bool) : (passS s i b).fu.length = s.fu.length := by unfold passS; rw [putS_len, putS_len]
theorem shipS_len (up : Bool) (n : Nat) : ∀ (m k : Nat) (s : PS), (shipS up n m k s).fu.length = s.fu.length
  | 0, _, _ => rfl
  | m + 1, k, s => by unfold shipS; rw [shipS_len up n m, passS_len]
def answer (s : List Int) (h : List Bool) (a1 : Bool) : List Int × List Bool × Bool := if goodF s h = true then ((s, (shipS a1 s.length s.length 0 (newS s h)).fu, true)) else ([], [], false)
theorem answer_le (s : List Int) (h : List Bool) (a1 : Bool) : (answer s h a1).1.length ≤ 6 ∧ (answer s h a1).2.1.length ≤ 6 := by
  unfold answer
  split
  · rename_i h2
    have := goodF_le h2
    rw [shipS_len]; unfold newS; dsimp only; omega
  · exact ⟨by simp, by simp⟩
theorem impl_ev (s : List Int) (h : List Bool) (a1 : Bool) : Ev (fun k => impl_RunShip.f s h a1) (answer s h a1) := by
  unfold impl_RunShip.f answer
  rw [isFlight_val]
  refine Ev.now_ ?_
  by_cases ho : goodF s h = true
  · have hv := goodF_le ho
    rw [show (if goodF s h = true then ((s, (shipS a1 s.length s.length 0 (newS s h)).fu, true)) else (([], [], false) : List Int × List Bool × Bool)) = ((s, (shipS a1 s.length s.length 0 (newS s h)).fu, true)) from if_pos ho]
    refine Ev.ifT (by exact ho) (Ev.ifT (by exact ⟨by omega, by omega, by omega⟩) ?_)
    exact Ev.now _
  · rw [show (if goodF s h = true then ((s, (shipS a1 s.length s.length 0 (newS s h)).fu, true)) else (([], [], false) : List Int × List Bool × Bool)) = ([], [], false) from if_neg ho]
    exact Ev.ifF (by exact ho) (Ev.now _)
theorem spec_ev (s : List Int) (h : List Bool) (a1 : Bool) (hs : s.length ≤ 1048576) (hh : h.length ≤ 1048576) : Ev (fun k => spec_RunShip.f k s h a1) (answer s h a1) := by
  unfold spec_RunShip.f answer
  refine Ev.bind (loGood_ev s h hs) ?_
  try dsimp only
  by_cases ho : goodF s h = true
  · have hv := goodF_le ho
    rw [show (if goodF s h = true then ((s, (shipS a1 s.length s.length 0 (newS s h)).fu, true)) else (([], [], false) : List Int × List Bool × Bool)) = ((s, (shipS a1 s.length s.length 0 (newS s h)).fu, true)) from if_pos ho]
    refine Ev.ifT (by exact ho) (Ev.ifT (by exact ⟨by omega, by omega, by omega⟩) ?_)
    rw [show (shipS a1 s.length s.length 0 (newS s h)).lf = s from by first | rfl | (rw [shipS_lf]; rfl)]
    exact Ev.now _
  · rw [show (if goodF s h = true then ((s, (shipS a1 s.length s.length 0 (newS s h)).fu, true)) else (([], [], false) : List Int × List Bool × Bool)) = ([], [], false) from if_neg ho]
    exact Ev.ifF (by exact ho) (Ev.now _)
theorem FnExactRunShip : ∀ (l0_0 : (List Int)) (l0_1 : (List Bool)) (a1 : Bool), (l0_0.length ≤ maxLen ∧ ∀ y4 ∈ l0_0, (Lit.int .i64 y4).wf = true) → (l0_1.length ≤ maxLen ∧ ∀ y4 ∈ l0_1, True) → ∃ k, laws_FnExactRunShip.f k l0_0 l0_1 a1 = some true := by
  intro s h a1 hs hh
  refine Ev.rounds (?_ : Ev (fun k => laws_FnExactRunShip.f k s h a1) true)
  unfold laws_FnExactRunShip.f
  rw [szFlight_val s h hs.1 hh.1]
  by_cases hl : (s.length : Int) + (h.length : Int) ≤ 1048576
  · have ha := answer_le s h a1
    have hS := spec_ev s h a1 (by omega) (by omega)
    have hI := impl_ev s h a1
    generalize answer s h a1 = r at ha hS hI
    obtain ⟨a, b, t⟩ := r
    dsimp only at ha
    rw [if_pos hl]
    simp only [Option.bind_some]
    refine Ev.ifF (by omega) ?_
    refine Ev.bind (toFlight_ev s h (by omega) (by omega)) ?_
    try dsimp only
    refine Ev.bind hS ?_
    try dsimp only
    refine Ev.bind (toFlight_ev s h (by omega) (by omega)) ?_
    try dsimp only
    refine Ev.bind hI ?_
    try dsimp only
    refine Ev.bind (eqFlight_ev a b (by omega) (by omega)) ?_
    try dsimp only
    refine Ev.ifT rfl (Ev.step (fun k => rfl) ?_)
    refine Ev.ifF (by simp) ?_
    refine Ev.bind (toFlight_ev s h (by omega) (by omega)) ?_
    try dsimp only
    refine Ev.bind (eqFlight_ev s h (by omega) (by omega)) ?_
    try dsimp only
    refine Ev.ifT rfl ?_
    refine Ev.bind (markFlight_ev s h (by omega) (by omega)) ?_
    try dsimp only
    refine Ev.ifF (by omega) ?_
    refine Ev.bind (eqFlight_ev a b (by omega) (by omega)) ?_
    try dsimp only
    refine Ev.ifT rfl (Ev.step (fun k => rfl) ?_)
    refine Ev.ifF (by simp) ?_
    refine Ev.bind (markFlight_ev a b (by omega) (by omega)) ?_
    try dsimp only
    refine Ev.bind (heldFlight_ev a.length b.length (by omega) (by omega)) ?_
    try dsimp only
    refine Ev.ifF (by omega) (Ev.ifT rfl ?_)
    refine Ev.bind (toFlight_ev s h (by omega) (by omega)) ?_
    try dsimp only
    refine Ev.bind hI ?_
    try dsimp only
    refine Ev.bind (eqFlight_ev a b (by omega) (by omega)) ?_
    try dsimp only
    refine Ev.ifT rfl (Ev.step (fun k => rfl) ?_)
    refine Ev.ifF (by simp) ?_
    refine Ev.bind (heldFlight_ev a.length b.length (by omega) (by omega)) ?_
    try dsimp only
    exact Ev.ifF (by omega) (Ev.ifT rfl (Ev.now _))
  · rw [if_neg hl]
    simp only [Option.bind_some]
    exact Ev.ifT (by decide) (Ev.now _)

end Go.Proofs.Ytmedapafllmhjaa.Pure

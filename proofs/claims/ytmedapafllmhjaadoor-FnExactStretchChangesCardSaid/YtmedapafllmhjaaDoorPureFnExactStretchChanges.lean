/- The pure statement of the law FnExactStretchChanges: what its printed functions compute is true for every input. No conditions. -/
import Derived.Test.YtmedapafllmhjaaDoorPFnExactStretchChangesx6
import Derived.Test.YtmedapafllmhjaaDoorPl
namespace Go.Proofs.YtmedapafllmhjaaDoor.Pure
open Go.RowKit Go.Proofs.YtmedapafllmhjaaDoor.PFnExactStretchChanges Go.Proofs.YtmedapafllmhjaaDoorW.PrintWords Go.Proofs.YtmedapafllmhjaaDoorW.PrintLast Go.Proofs.YtmedapafllmhjaaDoor.Pl
set_option linter.unusedVariables false
set_option linter.unusedSimpArgs false

theorem within_val (x a b : Int) : impl_within.f x a b = some (decide (a ≤ x ∧ x ≤ b)) := by
  unfold impl_within.f
  by_cases h : a ≤ x <;> simp [h]
theorem in_val (x a b : Int) : spec_l1In.f x a b = some (decide (a ≤ x ∧ x ≤ b)) := within_val x a b
theorem toIntS_ev (l : List Int) (hl : l.length ≤ 1048576) : Ev (fun k => laws_toIntS.f k l) l := by
  refine Ev.congr (fun k => ?_) (copy_ev 0 (l0 := laws_toIntS.l0) (fun _ _ _ _ => rfl) l 0 (by omega))
  show laws_toIntS.f k l = _
  unfold laws_toIntS.f
  rw [if_pos (by omega), if_pos (by omega)]
theorem eqIntS_ev (l : List Int) (hl : l.length ≤ 1048576) : Ev (fun k => laws_eqIntS.f k l l) true := by
  refine Ev.congr (fun k => ?_) (same_ev (l0 := laws_eqIntS.l0) (fun k x i => by simp only [laws_eqIntS.l0, if_true]) l (by omega))
  show laws_eqIntS.f k l l = _
  unfold laws_eqIntS.f
  rw [if_pos rfl]
/-- all elements lie in some bounds -/
def allIn (l : List Int) (a b : Int) : Bool := l.all fun x => decide (a ≤ x ∧ x ≤ b)
theorem areWithin_val (l : List Int) (a b : Int) : impl_areWithin.f l a b = some (allIn l a b) := by
  unfold impl_areWithin.f allIn
  congr 1
  rw [List.any_eq_not_all_not, Bool.not_not]
  congr 1
  funext x
  simp
theorem l1All_ev (l : List Int) (a b : Int) (hl : l.length ≤ 1048576) : Ev (fun k => spec_l1All.f k l a b) (allIn l a b) := by
  refine all_ev (l0 := fun k x i => spec_l1All.l0 k a b x (x.length : Int) i) 0 (fun x => decide (a ≤ x ∧ x ≤ b)) (fun k x i h0 => ?_) l (by omega)
  show spec_l1All.l0 (k + 1) a b x (x.length : Int) i = _
  simp only [spec_l1All.l0, in_val, Option.bind_some]
  by_cases hi : i < (x.length : Int)
  · rw [if_pos hi, if_pos h0, if_pos hi, if_pos hi]
    rfl
  · rw [if_neg hi, if_neg hi]
theorem toBoolS_ev (l : List Bool) (hl : l.length ≤ 1048576) : Ev (fun k => laws_toBoolS.f k l) l := by
  refine Ev.congr (fun k => ?_) (copy_ev false (l0 := laws_toBoolS.l0) (fun _ _ _ _ => rfl) l false (by omega))
  show laws_toBoolS.f k l = _
  unfold laws_toBoolS.f
  rw [if_pos (by omega), if_pos (by omega)]
theorem eqBoolS_ev (l : List Bool) (hl : l.length ≤ 1048576) : Ev (fun k => laws_eqBoolS.f k l l) true := by
  refine Ev.congr (fun k => ?_) (same_ev (l0 := laws_eqBoolS.l0) (fun k x i => by simp only [laws_eqBoolS.l0, bne_self_eq_false, Bool.false_eq_true, if_false]) l (by omega))
  show laws_eqBoolS.f k l l = _
  unfold laws_eqBoolS.f
  rw [if_pos rfl]
theorem szFlight_val (l : List Int) (m : List Bool) (hl : l.length ≤ maxLen) (hm : m.length ≤ maxLen) :
    laws_szFlight.f l m 1048576 = some (if (l.length : Int) + m.length ≤ 1048576 then ((1048576 : Int) - (l.length : Int) - (m.length : Int)) else (-1 : Int)) := by
  simp only [maxLen] at hl hm
  unfold laws_szFlight.f laws_szIntS.f laws_szBoolS.f
  rw [w64 (x := 1048576 - (l.length : Int)) (by omega) (by omega)]
  by_cases h : (1048576 : Int) - l.length < 0
  · rw [if_pos h, Option.bind_some, if_pos (by omega), if_neg (by omega)]
  · rw [if_neg h, Option.bind_some, if_neg h, w64 (by omega) (by omega)]
    by_cases h2 : (1048576 : Int) - l.length - m.length < 0
    · rw [if_pos h2, Option.bind_some, if_pos (by omega), if_neg (by omega)]
    · rw [if_neg h2, Option.bind_some, if_neg h2, if_pos (by omega)]
theorem toFlight_ev (l : List Int) (m : List Bool) (hl : l.length ≤ 1048576) (hm : m.length ≤ 1048576) : Ev (fun k => laws_toFlight.f k l m) (l, m) := by
  unfold laws_toFlight.f
  refine Ev.bind (toIntS_ev l hl) ?_
  try dsimp only
  refine Ev.bind (toBoolS_ev m hm) ?_
  exact Ev.now _
theorem eqFlight_ev (l : List Int) (m : List Bool) (hl : l.length ≤ 1048576) (hm : m.length ≤ 1048576) : Ev (fun k => laws_eqFlight.f k l m l m) true := by
  unfold laws_eqFlight.f
  refine Ev.bind (eqIntS_ev l hl) ?_
  try dsimp only
  refine Ev.ifT rfl (Ev.bind (eqBoolS_ev m hm) ?_)
  try dsimp only
  exact Ev.ifT rfl (Ev.now _)
/-- a flight -/
def goodF (l : List Int) (m : List Bool) : Bool := decide (1 ≤ (l.length : Int) ∧ (l.length : Int) ≤ 6) && (decide ((m.length : Int) = l.length) && allIn l 1 20)
theorem isFlight_val (l : List Int) (m : List Bool) : impl_IsFlight.f l m = some (goodF l m) := by
  unfold impl_IsFlight.f goodF
  rw [within_val, Option.bind_some, areWithin_val, Option.bind_some]
  by_cases h1 : 1 ≤ (l.length : Int) ∧ (l.length : Int) ≤ 6
  · rw [decide_eq_true h1, if_pos rfl]
    by_cases h2 : (m.length : Int) = l.length
    · rw [if_pos h2, decide_eq_true h2]; rfl
    · rw [if_neg h2, decide_eq_false h2]; rfl
  · rw [decide_eq_false h1, if_neg (by decide)]; rfl
theorem loGood_ev (l : List Int) (m : List Bool) (hl : l.length ≤ 1048576) : Ev (fun k => spec_loGood.f k l m) (goodF l m) := by
  unfold spec_loGood.f goodF
  simp only [in_val, Option.bind_some]
  by_cases h1 : 1 ≤ (l.length : Int) ∧ (l.length : Int) ≤ 6
  · rw [decide_eq_true h1]
    refine Ev.ifT rfl ?_
    by_cases h2 : (m.length : Int) = l.length
    · rw [decide_eq_true h2]
      refine Ev.ifT h2 (Ev.bind (l1All_ev l 1 20 hl) ?_)
      exact Ev.now _
    · rw [decide_eq_false h2]
      exact Ev.ifF h2 (Ev.now _)
  · rw [decide_eq_false h1]
    exact Ev.ifF (by decide) (Ev.now _)
theorem goodF_le {l : List Int} {m : List Bool} (h : goodF l m = true) : 1 ≤ l.length ∧ l.length ≤ 6 ∧ m.length = l.length ∧ ∀ x ∈ l, 1 ≤ x ∧ x ≤ 20 := by
  unfold goodF allIn at h
  simp only [Bool.and_eq_true, decide_eq_true_eq, List.all_eq_true] at h
  exact ⟨by omega, by omega, by omega, h.2.2⟩
theorem markIntS_ev (l : List Int) (q : Int) (hq0 : 0 ≤ q) (hq1 : q ≤ 100000000) (hl : l.length ≤ 1048576) : Ev (fun k => laws_markIntS.f k l q) (q + (l.length : Int), marks q l.length) := by
  refine mark_ev (l0 := laws_markIntS.l0) (fun k x q i h0 => ?_) q hq0 (by omega) l (by omega)
  simp only [laws_markIntS.l0, if_pos h0]
theorem heldIntS_ev (q : Int) (n : Nat) (hq0 : 0 ≤ q) (hq1 : q ≤ 100000000) (hl : n ≤ 1048576) : Ev (fun k => laws_heldIntS.f k (marks q n) q) (q + (n : Int)) := by
  refine held_ev (l0 := laws_heldIntS.l0) (fun k x q i h0 h1 h2 => ?_) (fun k x q i h1 => ?_) q hq0 (by omega) n (by omega)
  · simp only [laws_heldIntS.l0]
    rw [if_pos h1, if_pos h0, if_pos (show rd x i = q from h2)]
  · simp only [laws_heldIntS.l0]
    rw [if_neg h1]
def bit3 (q : Int) : Bool := Int.tmod q 3 == 0
/-- what markBoolS lays -/
def marksB (q : Int) (n : Nat) : List Bool := (List.range n).map fun (j : Nat) => bit3 (q + (j : Int))
theorem marksB_length (q : Int) (n : Nat) : (marksB q n).length = n := by simp [marksB]
theorem marksB_get (q : Int) (n : Nat) {i : Int} (h0 : 0 ≤ i) (h1 : i < n) : rdOf false (marksB q n) i = bit3 (q + i) := by
  unfold rdOf
  rw [getD_eq false (by rw [marksB_length]; omega)]
  simp [marksB, Int.toNat_of_nonneg h0]
theorem markBoolS_ev (l : List Bool) (q : Int) (hq0 : 0 ≤ q) (hq1 : q ≤ 100000000) (hl : l.length ≤ 1048576) : Ev (fun k => laws_markBoolS.f k l q) (q + (l.length : Int), marksB q l.length) := by
  have key : ∀ (m : Nat) (x : List Bool) (i : Int), x.length = l.length → 0 ≤ i → (l.length : Int) - i = m → (∀ j : Nat, j < i.toNat → x[j]? = (marksB q l.length)[j]?) → Ev (fun k => laws_markBoolS.l0 k x (q + i) i) (q + (l.length : Int), marksB q l.length) := by
    intro m
    induction m with
    | zero =>
      intro x i hx h0 hm hj
      refine Ev.step (f := fun _ => some (q + i, x)) (fun k => by simp only [laws_markBoolS.l0]; rw [if_neg (by omega)]) ?_
      have e2 : x = marksB q l.length := by
        apply List.ext_getElem?
        intro j
        by_cases h : j < l.length
        · exact hj j (by omega)
        · rw [List.getElem?_eq_none (by omega), List.getElem?_eq_none (by rw [marksB_length]; omega)]
      rw [show q + i = q + (l.length : Int) by omega, e2]
      exact Ev.now _
    | succ m ih =>
      intro x i hx h0 hm hj
      have hi : i.toNat < x.length := by omega
      refine Ev.step (f := fun k => laws_markBoolS.l0 k (x.set i.toNat (bit3 (q + i))) (q + (i + 1)) (i + 1)) (fun k => ?_) (ih _ (i + 1) (by rw [List.length_set]; exact hx) (by omega) (by omega) (fun j hlt => ?_))
      · simp only [laws_markBoolS.l0]
        rw [if_pos (by omega), if_pos h0, w64 (x := q + i + 1) (by omega) (by omega), w64 (x := i + 1) (by omega) (by omega), Int.add_assoc]
        rfl
      · by_cases e : j = i.toNat
        · subst e
          rw [List.getElem?_set_self hi]
          simp only [marksB, List.getElem?_map, List.getElem?_range (show i.toNat < l.length by omega), Option.map_some, Int.toNat_of_nonneg h0]
        · rw [List.getElem?_set_ne (fun e' => e e'.symm)]
          exact hj j (by omega)
  have := key l.length l 0 rfl (by omega) (by omega) (fun j hj => absurd hj (by simp))
  rw [Int.add_zero] at this
  exact this
theorem markFlight_ev (l : List Int) (m : List Bool) (hl : l.length ≤ 1048576) (hm : m.length ≤ 1048576) : Ev (fun k => laws_markFlight.f k l m 1) (1 + (l.length : Int) + (m.length : Int), marks 1 l.length, marksB (1 + (l.length : Int)) m.length) := by
  unfold laws_markFlight.f
  refine Ev.bind (markIntS_ev l 1 (by omega) (by omega) hl) ?_
  try dsimp only
  exact Ev.bind (markBoolS_ev m (1 + (l.length : Int)) (by omega) (by omega) hm) (Ev.now _)
theorem bt_ud (s : ByteArray) (i : Nat) (h : i < s.size) (c : UInt8) : (bt s (i : Int) = (c.toNat : Int)) ↔ s.data.toList[i]? = some c := by
  have e : bt s (i : Int) = ((s[i]'h).toNat : Int) := (bt_at s (i : Int) (by simpa using h)).symm.trans (by simp)
  have g : s.data.toList[i]? = some (s[i]'h) := by
    rw [Array.getElem?_toList]
    exact Array.getElem?_eq_getElem h
  rw [e, g]
  constructor
  · intro x
    have := UInt8.toNat_inj.mp (Int.natCast_inj.mp x)
    rw [this]
  · intro x
    rw [Option.some.inj x]
theorem loTraffic_scan (s : ByteArray) (hs : s.size ≤ 40) : ∀ (m i k : Nat), i + m = s.size → m + 1 ≤ k → spec_loTraffic.l0 k s (i : Int) = some ((s.data.toList.drop i).all (fun x => x == 117 || x == 100))
  | _, _, 0, _, hk => absurd hk (by omega)
  | 0, i, k + 1, h, _ => by
    have hn : s.data.toList.length = s.size := rfl
    unfold spec_loTraffic.l0
    rw [if_neg (by omega), List.drop_eq_nil_of_le (by omega)]
    rfl
  | m + 1, i, k + 1, h, hk => by
    have hn : s.data.toList.length = s.size := rfl
    have hi : i < s.size := by omega
    have w : wrap64 ((i : Int) + 1) = ((i + 1 : Nat) : Int) := by rw [show wrap64 ((i : Int) + 1) = (i : Int) + 1 by unfold wrap64; omega]; push_cast; rfl
    have ih := loTraffic_scan s hs m (i + 1) k (by omega) (by omega)
    rw [List.drop_eq_getElem_cons (by omega), List.all_cons]
    have gi : s.data.toList[i]? = some (s.data.toList[i]'(by omega)) := List.getElem?_eq_getElem _
    have b1 : bt s (i : Int) = 117 ↔ _ := bt_ud s i hi 117
    have b2 : bt s (i : Int) = 100 ↔ _ := bt_ud s i hi 100
    generalize s.data.toList[i]'(by omega) = x at gi ⊢
    rw [gi] at b1 b2
    simp only [Option.some.injEq] at b1 b2
    unfold spec_loTraffic.l0
    rw [if_pos (by omega), if_pos (by omega), w, ih]
    by_cases h1 : x = 117
    · rw [if_pos (b1.mpr h1), h1]; rfl
    · rw [if_neg (fun e => h1 (b1.mp e))]
      by_cases h2 : x = 100
      · rw [if_pos (b2.mpr h2), h2]; rfl
      · rw [if_neg (fun e => h2 (b2.mp e))]
        have e1 : (x == 117) = false := by simpa using h1
        have e2 : (x == 100) = false := by simpa using h2
        rw [e1, e2]; rfl
theorem loTraffic_ev (s : ByteArray) : Ev (fun k => spec_loTraffic.f k s) (trafficB s) := by
  refine Ev.at_ (K := s.size + 1) (fun k hk => ?_)
  unfold spec_loTraffic.f trafficB
  rw [trim_empty]
  by_cases h : (s.size : Int) > 40
  · rw [if_pos h, decide_eq_false (by omega)]; rfl
  · rw [if_neg h, decide_eq_true (by omega)]
    have := loTraffic_scan s (by omega) s.size 0 k (by omega) hk
    rw [show ((0 : Nat) : Int) = 0 from rfl] at this
    rw [this]; rfl
theorem loAsked_ev (l : List Int) (m : List Bool) (s : ByteArray) (hl : l.length ≤ 1048576) : Ev (fun k => spec_loAsked.f k l m s) (goodF l m && trafficB s) := by
  unfold spec_loAsked.f
  refine Ev.bind (loGood_ev l m hl) ?_
  try dsimp only
  cases hg : goodF l m with
  | false => exact Ev.ifF (by decide) (Ev.now _)
  | true => exact Ev.ifT rfl (Ev.bind (loTraffic_ev s) (Ev.now _))
theorem traffic_le {s : ByteArray} (h : trafficB s = true) : s.size ≤ 40 := by
  unfold trafficB at h
  rw [Bool.and_eq_true, decide_eq_true_eq] at h
  omega
theorem lens (n : Nat) : ∀ (l : List UInt8) (s : PS), (runS n l s).fu.length = s.fu.length ∧ (runS n l s).ch.length = s.ch.length ∧ (runS n l s).fi.length = s.fi.length
  | [], _ => ⟨rfl, rfl, rfl⟩
  | c :: t, s => by
    have put : ∀ (s : PS) i b, (putS s i b).fu.length = s.fu.length ∧ (putS s i b).ch.length = s.ch.length ∧ (putS s i b).fi.length = s.fi.length := fun s i b => by
      unfold putS
      split
      · exact ⟨rfl, rfl, rfl⟩
      · split
        · exact ⟨List.length_set, List.length_set, List.length_set⟩
        · exact ⟨List.length_set, List.length_set, rfl⟩
    have pass : ∀ (s : PS) i b, (passS s i b).fu.length = s.fu.length ∧ (passS s i b).ch.length = s.ch.length ∧ (passS s i b).fi.length = s.fi.length := fun s i b => by
      have a := put s i (!b)
      have c := put (putS s i (!b)) i b
      unfold passS
      exact ⟨c.1.trans a.1, c.2.1.trans a.2.1, c.2.2.trans a.2.2⟩
    have ship : ∀ (up : Bool) (m k : Nat) (s : PS), (shipS up n m k s).fu.length = s.fu.length ∧ (shipS up n m k s).ch.length = s.ch.length ∧ (shipS up n m k s).fi.length = s.fi.length := fun up m => by
      induction m with
      | zero => intro k s; exact ⟨rfl, rfl, rfl⟩
      | succ m ih =>
        intro k s
        have a := ih (k + 1) (passS s (if up = true then (k : Int) else (n : Int) - 1 - (k : Int)) up)
        have c := pass s (if up = true then (k : Int) else (n : Int) - 1 - (k : Int)) up
        unfold shipS
        exact ⟨a.1.trans c.1, a.2.1.trans c.2.1, a.2.2.trans c.2.2⟩
    have a := lens n t (shipS (decide (c = 117)) n n 0 s)
    have b := ship (decide (c = 117)) n 0 s
    unfold runS
    exact ⟨a.1.trans b.1, a.2.1.trans b.2.1, a.2.2.trans b.2.2⟩
def answer (s : List Int) (h : List Bool) (a : ByteArray) : List Int × Bool := if (goodF s h && trafficB a) = true then ((runS s.length a.data.toList (newS s h)).ch, true) else ([], false)
theorem impl_ev (s : List Int) (h : List Bool) (a : ByteArray) (ha : a.size ≤ 140737488351232) : Ev (fun k => impl_StretchChanges.f s h a) (answer s h a) := by
  unfold impl_StretchChanges.f answer
  rw [isFlight_val]
  refine Ev.now_ (Ev.ifT ha ?_)
  by_cases ho : (goodF s h && trafficB a) = true
  · have hv := goodF_le (Bool.and_eq_true_iff.mp ho).1
    rw [show (if (goodF s h && trafficB a) = true then ((runS s.length a.data.toList (newS s h)).ch, true) else ([], false) : List Int × Bool) = ((runS s.length a.data.toList (newS s h)).ch, true) from if_pos ho]
    exact Ev.ifT ho (Ev.ifT ⟨by omega, by omega, by omega⟩ (Ev.now _))
  · rw [show (if (goodF s h && trafficB a) = true then ((runS s.length a.data.toList (newS s h)).ch, true) else ([], false) : List Int × Bool) = ([], false) from if_neg ho]
    exact Ev.ifF ho (Ev.now _)
theorem spec_ev (s : List Int) (h : List Bool) (a : ByteArray) (hs : s.length ≤ 1048576) : Ev (fun k => spec_StretchChanges.f k s h a) (answer s h a) := by
  unfold spec_StretchChanges.f answer
  refine Ev.bind (loAsked_ev s h a hs) ?_
  try dsimp only
  by_cases ho : (goodF s h && trafficB a) = true
  · have hv := goodF_le (Bool.and_eq_true_iff.mp ho).1
    have htl := traffic_le (Bool.and_eq_true_iff.mp ho).2
    rw [show (if (goodF s h && trafficB a) = true then ((runS s.length a.data.toList (newS s h)).ch, true) else ([], false) : List Int × Bool) = ((runS s.length a.data.toList (newS s h)).ch, true) from if_pos ho]
    refine Ev.ifT ho (Ev.ifT ⟨⟨by omega, by omega, by omega⟩, htl⟩ ?_)
    exact Ev.now _
  · rw [show (if (goodF s h && trafficB a) = true then ((runS s.length a.data.toList (newS s h)).ch, true) else ([], false) : List Int × Bool) = ([], false) from if_neg ho]
    exact Ev.ifF ho (Ev.now _)
theorem answer_le (s : List Int) (h : List Bool) (a : ByteArray) : (answer s h a).1.length ≤ 7 := by
  unfold answer
  split
  · rename_i h2
    have := goodF_le (Bool.and_eq_true_iff.mp h2).1
    have e := lens s.length a.data.toList (newS s h)
    have e1 : (newS s h).fu.length = h.length := rfl
    have e2 : (newS s h).ch.length = s.length + 1 := List.length_replicate
    have e3 : (newS s h).fi.length = s.length := List.length_replicate
    dsimp only
    omega
  · exact by simp
theorem FnExactStretchChanges : ∀ (l0_0 : (List Int)) (l0_1 : (List Bool)) (a1 : ByteArray), (l0_0.length ≤ maxLen ∧ ∀ y4 ∈ l0_0, (Lit.int .i64 y4).wf = true) → (l0_1.length ≤ maxLen ∧ ∀ y4 ∈ l0_1, True) → (a1.size ≤ 140737488351232) → ∃ k, laws_FnExactStretchChanges.f k l0_0 l0_1 a1 = some true := by
  intro s h a hs hh ha
  refine Ev.rounds (?_ : Ev (fun k => laws_FnExactStretchChanges.f k s h a) true)
  unfold laws_FnExactStretchChanges.f
  by_cases hb : (a.size : Int) > 1048576
  · exact Ev.ifT hb (Ev.now _)
  refine Ev.ifF hb ?_
  rw [szFlight_val s h hs.1 hh.1]
  by_cases hl : (s.length : Int) + (h.length : Int) ≤ 1048576
  · have hS := spec_ev s h a (by omega)
    have hI := impl_ev s h a ha
    have hA := answer_le s h a
    generalize answer s h a = r at hS hI hA
    obtain ⟨u, t⟩ := r
    dsimp only at hA
    rw [if_pos hl]
    simp only [Option.bind_some]
    refine Ev.ifF (by omega) ?_
    refine Ev.bind (toFlight_ev s h (by omega) (by omega)) ?_
    try dsimp only
    refine Ev.bind hS ?_
    try dsimp only
    refine Ev.bind (toFlight_ev s h (by omega) (by omega)) ?_
    try dsimp only
    refine Ev.bind hI ?_
    try dsimp only
    refine Ev.bind (eqIntS_ev u (by omega)) ?_
    try dsimp only
    refine Ev.ifT rfl (Ev.step (fun k => rfl) ?_)
    refine Ev.ifF (by simp) ?_
    refine Ev.bind (toFlight_ev s h (by omega) (by omega)) ?_
    try dsimp only
    refine Ev.bind (eqFlight_ev s h (by omega) (by omega)) ?_
    try dsimp only
    refine Ev.ifT rfl ?_
    refine Ev.bind (markFlight_ev s h (by omega) (by omega)) ?_
    try dsimp only
    refine Ev.ifF (by omega) ?_
    refine Ev.bind (eqIntS_ev u (by omega)) ?_
    try dsimp only
    refine Ev.ifT rfl (Ev.step (fun k => rfl) ?_)
    refine Ev.ifF (by simp) ?_
    refine Ev.bind (markIntS_ev u 1 (by omega) (by omega) (by omega)) ?_
    try dsimp only
    refine Ev.bind (heldIntS_ev 1 u.length (by omega) (by omega) (by omega)) ?_
    try dsimp only
    refine Ev.ifF (by omega) (Ev.ifT rfl ?_)
    refine Ev.bind (toFlight_ev s h (by omega) (by omega)) ?_
    try dsimp only
    refine Ev.bind hI ?_
    try dsimp only
    refine Ev.bind (eqIntS_ev u (by omega)) ?_
    try dsimp only
    refine Ev.ifT rfl (Ev.step (fun k => rfl) ?_)
    refine Ev.ifF (by simp) ?_
    refine Ev.bind (heldIntS_ev 1 u.length (by omega) (by omega) (by omega)) ?_
    try dsimp only
    exact Ev.ifF (by omega) (Ev.ifT rfl (Ev.now _))
  · rw [if_neg hl]
    simp only [Option.bind_some]
    exact Ev.ifT (by decide) (Ev.now _)

end Go.Proofs.YtmedapafllmhjaaDoor.Pure

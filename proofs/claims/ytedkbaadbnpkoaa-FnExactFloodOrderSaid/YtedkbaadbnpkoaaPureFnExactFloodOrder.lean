/- The pure statement of the law FnExactFloodOrder: what its printed functions compute is true for every input. No conditions. -/
import Derived.Test.YtedkbaadbnpkoaaPFnExactFloodOrderx4
import Derived.Test.YtedkbaadbnpkoaaPl
namespace Go.Proofs.Ytedkbaadbnpkoaa.Pure
open Go.RowKit Go.Proofs.Ytedkbaadbnpkoaa.PFnExactFloodOrder Go.Proofs.YtedkbaadbnpkoaaW.PrintWords Go.Proofs.YtedkbaadbnpkoaaW.PrintLast Go.Proofs.Ytedkbaadbnpkoaa.Pl
set_option linter.unusedVariables false
set_option linter.unusedSimpArgs false

theorem within_val (x a b : Int) : impl_within.f x a b = some (decide (a ≤ x ∧ x ≤ b)) := by
  unfold impl_within.f
  by_cases h : a ≤ x <;> simp [h]
theorem in_val (x a b : Int) : spec_l1In.f x a b = some (decide (a ≤ x ∧ x ≤ b)) := within_val x a b
theorem szTankS_val (l : List S66) (hl : l.length ≤ 9223372036854775807) : laws_szTankS.f l 1048576 = some (if (1048576 : Int) - (l.length : Int) < 0 then -1 else 1048576 - (l.length : Int)) := by
  unfold laws_szTankS.f
  rw [w64 (x := 1048576 - (l.length : Int)) (by omega) (by omega)]
  split <;> rfl
def toT (l : List S66) : List S63 := l.map fun x => ⟨x.f0, x.f1, x.f2⟩
theorem toT_length (l : List S66) : (toT l).length = l.length := by simp [toT]
theorem toTankS_ev (l : List S66) (hl : l.length ≤ 1048576) : Ev (fun k => laws_toTankS.f k l) (toT l) := by
  have key : ∀ (m : Nat) (i : Int) (y : List S63), 0 ≤ i → (l.length : Int) - i = m → y.length = l.length → (∀ j : Nat, j < i.toNat → y[j]? = (toT l)[j]?) → Ev (fun k => laws_toTankS.l0 k l y i) (toT l) := by
    intro m
    induction m with
    | zero =>
      intro i y h0 hm hyl hj
      refine Ev.step (f := fun _ => some y) (fun k => by simp only [laws_toTankS.l0]; rw [if_neg (by omega)]) ?_
      have : y = toT l := by
        apply List.ext_getElem?
        intro j
        by_cases h : j < l.length
        · exact hj j (by omega)
        · rw [List.getElem?_eq_none (by omega), List.getElem?_eq_none (by rw [toT_length]; omega)]
      rw [this]
      exact Ev.now _
    | succ m ih =>
      intro i y h0 hm hyl hj
      have hi : i.toNat < l.length := by omega
      refine Ev.step (f := fun k => laws_toTankS.l0 k l (y.set i.toNat ⟨(rd_T66 l i).f0, (rd_T66 l i).f1, (rd_T66 l i).f2⟩) (i + 1)) (fun k => ?_) ?_
      · simp only [laws_toTankS.l0, laws_toTank.f, Option.bind_some]
        rw [if_pos (by omega), if_pos h0, if_pos (by omega), w64 (x := i + 1) (by omega) (by omega)]
      · refine ih (i + 1) _ (by omega) (by omega) (by rw [List.length_set]; exact hyl) (fun j hlt => ?_)
        by_cases e : j = i.toNat
        · subst e
          rw [List.getElem?_set_self (by omega)]
          simp only [toT, List.getElem?_map, List.getElem?_eq_getElem hi, Option.map_some]
          unfold rd_T66
          rw [getD_eq z66 hi]
        · rw [List.getElem?_set_ne (fun e' => e e'.symm)]
          exact hj j (by omega)
  unfold laws_toTankS.f
  refine Ev.ifT (by omega) (Ev.ifT (by omega) ?_)
  exact key l.length 0 _ (by omega) (by omega) (by simp) (fun j hj => absurd hj (by simp))
theorem eqTankS_ev (l : List S63) (hl : l.length ≤ 1048576) : Ev (fun k => laws_eqTankS.f k l l) true := by
  refine Ev.congr (fun k => ?_) (same_ev (l0 := laws_eqTankS.l0) (fun k x i => by simp only [laws_eqTankS.l0, laws_eqTank.f, if_true, Option.bind_some]) l (by omega))
  show laws_eqTankS.f k l l = _
  unfold laws_eqTankS.f
  rw [if_pos rfl]
def goodT (l : List S63) : Bool := decide (1 ≤ (l.length : Int) ∧ (l.length : Int) ≤ 6) && !(l.any fun x => !tankOk x)
theorem leTanks_ev (l : List S63) (hl : l.length ≤ 1048576) : Ev (fun k => spec_leTanks.f k l) (goodT l) := by
  have ht : ∀ x : S63, spec_leTank.f x.f0 x.f1 x.f2 = some (tankOk x) := fun x => isTank_val x.f0 x.f1 x.f2
  unfold spec_leTanks.f goodT
  rw [in_val]
  refine Ev.now_ ?_
  by_cases h : 1 ≤ (l.length : Int) ∧ (l.length : Int) ≤ 6
  · rw [decide_eq_true h, Bool.true_and]
    refine Ev.ifT rfl ?_
    have e : (!(l.any fun x => !tankOk x)) = l.all tankOk := by
      rw [List.any_eq_not_all_not, Bool.not_not]
      congr 1
      funext x
      simp
    rw [e]
    refine all_ev (l0 := fun k x i => spec_leTanks.l0 k x (x.length : Int) i) z63 tankOk (fun k x i h0 => ?_) l (by omega)
    show spec_leTanks.l0 (k + 1) x (x.length : Int) i = _
    simp only [spec_leTanks.l0, ht, Option.bind_some]
    by_cases hi : i < (x.length : Int)
    · rw [if_pos hi, if_pos h0, if_pos hi, if_pos hi]
      rfl
    · rw [if_neg hi, if_neg hi]
  · rw [decide_eq_false h, Bool.false_and]
    exact Ev.ifF (by decide) (Ev.now _)
theorem tw_iff {α : Type} {p : α → Bool} : ∀ {l : List α}, l.takeWhile p = l ↔ ∀ z ∈ l, p z = true
  | [] => by simp
  | y :: l => by
    rw [List.takeWhile_cons]
    by_cases h : p y = true
    · rw [if_pos h]
      simp [h, tw_iff (l := l)]
    · rw [if_neg h]
      simp [h]
theorem dw_iff {α : Type} {p : α → Bool} : ∀ {l : List α}, l.dropWhile p = [] ↔ ∀ z ∈ l, p z = true
  | [] => by simp
  | y :: l => by
    rw [List.dropWhile_cons]
    by_cases h : p y = true
    · rw [if_pos h]
      simp [h, dw_iff (l := l)]
    · rw [if_neg h]
      simp [h]
def insL (t : S63) (l : List S63) : List S63 := l.takeWhile (fun y => decide (y.f1 ≤ t.f1)) ++ [t] ++ l.dropWhile (fun y => decide (y.f1 ≤ t.f1))
theorem rdT_get {l : List S63} {i : Int} (h0 : 0 ≤ i) (h1 : i < l.length) : l[i.toNat]? = some (rd_T63 l i) := by
  unfold rd_T63
  rw [List.getD_eq_getElem?_getD, List.getElem?_eq_getElem (by omega)]
  rfl
theorem rdT_mem {l : List S63} {i : Int} (h0 : 0 ≤ i) (h1 : i < l.length) : rd_T63 l i ∈ l := List.mem_of_getElem? (rdT_get h0 h1)
theorem rdT_drop {l : List S63} {i : Int} (h0 : 0 ≤ i) (h1 : i < l.length) : l.drop i.toNat = rd_T63 l i :: l.drop (i + 1).toNat := by
  rw [List.drop_eq_getElem_cons (by omega), show (i + 1).toNat = i.toNat + 1 by omega]
  congr 1
  have h := rdT_get h0 h1
  rw [List.getElem?_eq_getElem (by omega)] at h
  exact Option.some.inj h
def insI (X : List S63) (i : Int) (out : List Int) : List Int := out.takeWhile (fun j => decide ((rd_T63 X j).f1 ≤ (rd_T63 X i).f1)) ++ [i] ++ out.dropWhile (fun j => decide ((rd_T63 X j).f1 ≤ (rd_T63 X i).f1))
theorem insI_map (X : List S63) (i : Int) (out : List Int) : (insI X i out).map (rd_T63 X) = insL (rd_T63 X i) (out.map (rd_T63 X)) := by
  unfold insI insL
  rw [List.takeWhile_map, List.dropWhile_map]
  simp [Function.comp_def]
theorem insI_len (X : List S63) (i : Int) (out : List Int) : (insI X i out).length = out.length + 1 := by
  have := congrArg List.length (List.takeWhile_append_dropWhile (p := fun j => decide ((rd_T63 X j).f1 ≤ (rd_T63 X i).f1)) (l := out))
  unfold insI
  simp only [List.length_append, List.length_cons, List.length_nil] at this ⊢
  omega
theorem insI_mem {X : List S63} {i : Int} {out : List Int} {z : Int} (h : z ∈ insI X i out) : z = i ∨ z ∈ out := by
  unfold insI at h
  rcases List.mem_append.1 h with h | h
  · rcases List.mem_append.1 h with h | h
    · exact .inr ((List.takeWhile_prefix _).subset h)
    · exact .inl (by simpa using h)
  · exact .inr ((List.dropWhile_suffix _).subset h)
theorem own_val (l : List Int) (hl : l.length ≤ 1048576) : spec_l1Own.f l = some l := by
  unfold spec_l1Own.f
  simp only [Option.bind_some, List.length_nil, List.nil_append]
  rw [if_pos (by omega)]
theorem orderIn_ev (X : List S63) (hX : X.length ≤ 1000) (out : List Int) (i : Int) (hi0 : 0 ≤ i) (hi1 : i < X.length) (ho : ∀ z ∈ out, 0 ≤ z ∧ z < X.length) (hl : out.length ≤ 1000) {r : List Int}
    (hr : Ev (fun k => spec_leOrder.l0 k X (insI X i out) X (X.length : Int) (i + 1)) r) : ∀ (m : Nat) (q : Int), 0 ≤ q → (out.length : Int) - q = m → (∀ z ∈ out.take q.toNat, (rd_T63 X z).f1 ≤ (rd_T63 X i).f1) →
    Ev (fun k => spec_leOrder.l1 k X out i q X (X.length : Int) i (rd_T63 X i).f0 (rd_T63 X i).f1 (rd_T63 X i).f2) r := by
  intro m
  induction m with
  | zero =>
    intro q h0 hm ha
    have hq : q.toNat = out.length := by omega
    rw [hq, List.take_length] at ha
    have e : insI X i out = out ++ [i] := by
      unfold insI
      rw [tw_iff.2 (by simpa using ha), dw_iff.2 (by simpa using ha)]
      simp
    rw [e] at hr
    refine Ev.step (f := fun k => spec_leOrder.l0 k X (out ++ [i]) X (X.length : Int) (i + 1)) (fun k => ?_) hr
    simp only [spec_leOrder.l1]
    rw [if_neg (by omega), if_pos h0, if_pos (by omega), hq, List.take_length, own_val out (by omega), Option.bind_some, if_pos (by omega), Option.bind_some, List.drop_length, Option.bind_some, if_pos (by simp; omega), w64 (by omega) (by omega)]
    simp
  | succ m ih =>
    intro q h0 hm ha
    have hq : q.toNat < out.length := by omega
    have hrd : rd out q = out[q.toNat] := by
      unfold rd
      exact getD_eq 0 hq
    have hz := ho _ (List.getElem_mem hq)
    rw [← hrd] at hz
    by_cases hc : (rd_T63 X (rd out q)).f1 ≤ (rd_T63 X i).f1
    · refine Ev.step (f := fun k => spec_leOrder.l1 k X out i (q + 1) X (X.length : Int) i (rd_T63 X i).f0 (rd_T63 X i).f1 (rd_T63 X i).f2) (fun k => ?_) (ih (q + 1) (by omega) (by omega) ?_)
      · simp only [spec_leOrder.l1]
        rw [if_pos (by omega), if_pos h0, if_pos hz.1, if_pos hz.2, if_pos hc, w64 (by omega) (by omega)]
      · intro z hz2
        rw [show (q + 1).toNat = q.toNat + 1 by omega, List.take_add_one, List.getElem?_eq_getElem hq] at hz2
        rcases List.mem_append.1 hz2 with h | h
        · exact ha z h
        · have : z = out[q.toNat] := by simpa using h
          rw [this, ← hrd]
          exact hc
    · have e : insI X i out = out.take q.toNat ++ [i] ++ out.drop q.toNat := by
        have ed : out.drop q.toNat = rd out q :: out.drop (q.toNat + 1) := by rw [List.drop_eq_getElem_cons hq, hrd]
        have es : out = out.take q.toNat ++ out.drop q.toNat := (List.take_append_drop _ _).symm
        unfold insI
        generalize hp : (fun j => decide ((rd_T63 X j).f1 ≤ (rd_T63 X i).f1)) = p
        have h1 : ∀ z ∈ out.take q.toNat, p z = true := by
          intro z hz2
          rw [← hp]
          exact decide_eq_true (ha z hz2)
        have h2 : p (rd out q) = false := by
          rw [← hp]
          exact decide_eq_false hc
        have t1 : out.takeWhile p = out.take q.toNat := by
          conv => lhs; rw [es]
          rw [List.takeWhile_append_of_pos h1, ed, List.takeWhile_cons, if_neg (by rw [h2]; decide), List.append_nil]
        have t2 : out.dropWhile p = out.drop q.toNat := by
          conv => lhs; rw [es]
          rw [List.dropWhile_append_of_pos h1, ed, List.dropWhile_cons, if_neg (by rw [h2]; decide)]
        rw [t1, t2]
      rw [e] at hr
      refine Ev.step (f := fun k => spec_leOrder.l0 k X (out.take q.toNat ++ [i] ++ out.drop q.toNat) X (X.length : Int) (i + 1)) (fun k => ?_) hr
      simp only [spec_leOrder.l1]
      have hl1 : (out.take q.toNat).length ≤ 1000 := by rw [List.length_take]; omega
      have hl2 : (out.drop q.toNat).length ≤ 1000 := by rw [List.length_drop]; omega
      rw [if_pos (by omega), if_pos h0, if_pos hz.1, if_pos hz.2, if_neg hc, if_pos (by omega), own_val _ (by omega), Option.bind_some, if_pos (by omega), Option.bind_some, Option.bind_some, if_pos (by rw [List.length_append]; simp only [List.length_cons, List.length_nil]; omega), w64 (by omega) (by omega)]
theorem order_ev (X : List S63) (hX : X.length ≤ 500) : ∀ (m : Nat) (i : Int) (out : List Int), 0 ≤ i → (X.length : Int) - i = m → (out.length : Int) = i → (∀ z ∈ out, 0 ≤ z ∧ z < X.length) →
    ∃ ord : List Int, Ev (fun k => spec_leOrder.l0 k X out X (X.length : Int) i) ord ∧ (∀ z ∈ ord, 0 ≤ z ∧ z < X.length) ∧ ord.length = X.length ∧ ord = (listFrom id m i).foldl (fun acc j => insI X j acc) out ∧ ord.map (rd_T63 X) = (X.drop i.toNat).foldl (fun acc t => insL t acc) (out.map (rd_T63 X)) := by
  intro m
  induction m with
  | zero =>
    intro i out h0 hm hl ho
    refine ⟨out, Ev.step (f := fun _ => some out) (fun k => by simp only [spec_leOrder.l0]; rw [if_neg (by omega)]) (Ev.now _), ho, by omega, rfl, ?_⟩
    rw [List.drop_eq_nil_of_le (by omega)]
    rfl
  | succ m ih =>
    intro i out h0 hm hl ho
    obtain ⟨ord, h1, h2, h3, h4, h5⟩ := ih (i + 1) (insI X i out) (by omega) (by omega) (by rw [insI_len]; omega) (fun z hz => by
      rcases insI_mem hz with rfl | hz
      · omega
      · exact ho z hz)
    refine ⟨ord, ?_, h2, h3, ?_, ?_⟩
    · refine Ev.step (f := fun k => spec_leOrder.l1 k X out i 0 X (X.length : Int) i (rd_T63 X i).f0 (rd_T63 X i).f1 (rd_T63 X i).f2) (fun k => ?_) (orderIn_ev X (by omega) out i h0 (by omega) ho (by omega) h1 out.length 0 (by omega) (by omega) (by simp))
      simp only [spec_leOrder.l0]
      rw [if_pos (by omega), if_pos h0, if_pos (by omega)]
    · rw [h4]
      rfl
    · rw [h5, rdT_drop h0 (by omega), List.foldl_cons, insI_map]
def okT (X : List S63) : Prop := ∀ x ∈ X, 1 ≤ x.f0 ∧ x.f0 ≤ 50 ∧ 0 ≤ x.f1 ∧ x.f1 ≤ 100 ∧ 0 ≤ x.f2 ∧ x.f2 ≤ 10000
theorem tankOk_le {x : S63} (h : tankOk x = true) : 1 ≤ x.f0 ∧ x.f0 ≤ 50 ∧ 0 ≤ x.f1 ∧ x.f1 ≤ 100 ∧ 0 ≤ x.f2 ∧ x.f2 ≤ 10000 := by
  unfold tankOk at h
  simp only [Bool.and_eq_true, decide_eq_true_eq] at h
  omega
theorem goodT_le {X : List S63} (h : goodT X = true) : 1 ≤ X.length ∧ X.length ≤ 6 ∧ okT X := by
  unfold goodT at h
  simp only [Bool.and_eq_true, decide_eq_true_eq, Bool.not_eq_true', List.any_eq_false] at h
  refine ⟨by omega, by omega, fun x hx => tankOk_le ?_⟩
  have := h.2 x hx
  simpa using this
def wsum (X : List S63) : Int := (X.map fun x => x.f2).sum
theorem wsum_le {X : List S63} (h : okT X) : 0 ≤ wsum X ∧ wsum X ≤ 10000 * X.length := by
  induction X with
  | nil => simp [wsum]
  | cons x X ih =>
    have h1 := h x List.mem_cons_self
    have h2 := ih (fun y hy => h y (List.mem_cons_of_mem _ hy))
    simp only [wsum, List.map_cons, List.sum_cons, List.length_cons] at h2 ⊢
    omega
theorem eqIntS_ev (l : List Int) (hl : l.length ≤ 1048576) : Ev (fun k => laws_eqIntS.f k l l) true := by
  refine Ev.congr (fun k => ?_) (same_ev (l0 := laws_eqIntS.l0) (fun k x i => by simp only [laws_eqIntS.l0, if_true]) l (by omega))
  show laws_eqIntS.f k l l = _
  unfold laws_eqIntS.f
  rw [if_pos rfl]
theorem markIntS_ev (l : List Int) (q : Int) (hq0 : 0 ≤ q) (hq1 : q ≤ 100000000) (hl : l.length ≤ 1048576) : Ev (fun k => laws_markIntS.f k l q) (q + (l.length : Int), marks q l.length) := by
  refine mark_ev (l0 := laws_markIntS.l0) (fun k x q i h0 => ?_) q hq0 (by omega) l (by omega)
  simp only [laws_markIntS.l0, if_pos h0]
theorem heldIntS_ev (q : Int) (n : Nat) (hq0 : 0 ≤ q) (hq1 : q ≤ 100000000) (hl : n ≤ 1048576) : Ev (fun k => laws_heldIntS.f k (marks q n) q) (q + (n : Int)) := by
  refine held_ev (l0 := laws_heldIntS.l0) (fun k x q i h0 h1 h2 => ?_) (fun k x q i h1 => ?_) q hq0 (by omega) n (by omega)
  · simp only [laws_heldIntS.l0]
    rw [if_pos h1, if_pos h0, if_pos (show rd x i = q from h2)]
  · simp only [laws_heldIntS.l0]
    rw [if_neg h1]
/-- ascending numbers in tanks -/
def nextM (x : List S63) (q i : Int) : List S63 :=
  let y := x.set i.toNat ⟨q, (rd_T63 x i).f1, (rd_T63 x i).f2⟩
  let z := y.set i.toNat ⟨(rd_T63 y i).f0, q + 1, (rd_T63 y i).f2⟩
  z.set i.toNat ⟨(rd_T63 z i).f0, (rd_T63 z i).f1, q + 1 + 1⟩
theorem markTankS_ev (l : List S63) (hl : l.length ≤ 1048576) : ∃ y : List S63, Ev (fun k => laws_markTankS.f k l 1) (1 + 3 * (l.length : Int), y) := by
  have key : ∀ (m : Nat) (x : List S63) (i : Int), x.length = l.length → 0 ≤ i → (l.length : Int) - i = m → ∃ y : List S63, Ev (fun k => laws_markTankS.l0 k x (1 + 3 * i) i) (1 + 3 * (l.length : Int), y) := by
    intro m
    induction m with
    | zero =>
      intro x i hx h0 hm
      refine ⟨x, Ev.step (f := fun _ => some (1 + 3 * i, x)) (fun k => by simp only [laws_markTankS.l0]; rw [if_neg (by omega)]) ?_⟩
      rw [show 1 + 3 * i = 1 + 3 * (l.length : Int) by omega]
      exact Ev.now _
    | succ m ih =>
      intro x i hx h0 hm
      obtain ⟨y, h⟩ := ih (nextM x (1 + 3 * i) i) (i + 1) (by unfold nextM; simp only [List.length_set]; exact hx) (by omega) (by omega)
      refine ⟨y, Ev.step (fun k => ?_) h⟩
      simp only [laws_markTankS.l0, Option.bind_some]
      rw [if_pos (by omega), if_pos h0, w64 (x := 1 + 3 * i + 1) (by omega) (by omega), w64 (x := 1 + 3 * i + 1 + 1) (by omega) (by omega), w64 (x := 1 + 3 * i + 1 + 1 + 1) (by omega) (by omega), w64 (x := i + 1) (by omega) (by omega), show 1 + 3 * i + 1 + 1 + 1 = 1 + 3 * (i + 1) by omega]
      rfl
  have := key l.length l 0 rfl (by omega) (by omega)
  rw [Int.mul_zero, Int.add_zero] at this
  exact this
section
set_option linter.unusedSectionVars false
variable {α : Type} [Inhabited α] (key : α → Int)
def gRev (t : α) : List α → List α
  | [] => [t]
  | y :: r => if key t < key y then y :: gRev t r else t :: y :: r
def gR (t : α) (l : List α) : List α := (gRev key t l.reverse).reverse
def gL (t : α) (l : List α) : List α := l.takeWhile (fun y => decide (key y ≤ key t)) ++ [t] ++ l.dropWhile (fun y => decide (key y ≤ key t))
theorem gR_snoc (t y : α) (p : List α) : gR key t (p ++ [y]) = if key t < key y then gR key t p ++ [y] else p ++ [y] ++ [t] := by
  unfold gR
  rw [List.reverse_append]
  simp only [List.reverse_cons, List.reverse_nil, List.nil_append, List.cons_append, gRev]
  split <;> simp
theorem gR_len (t : α) (l : List α) : (gR key t l).length = l.length + 1 := by
  have h : ∀ r, (gRev key t r).length = r.length + 1 := by
    intro r
    induction r with
    | nil => rfl
    | cons y r ih => unfold gRev; split <;> simp [ih]
  unfold gR
  rw [List.length_reverse, h, List.length_reverse]
theorem g_get {l : List α} {i : Nat} {x : α} (h : l[i]? = some x) : l.toArray[i]! = x := by
  obtain ⟨hi, hx⟩ := List.getElem?_eq_some_iff.1 h
  rw [getElem!_pos _ i (by simpa using hi)]
  simpa using hx
theorem g_t (p s : List α) (y t : α) : (p ++ [y] ++ [t] ++ s)[p.length + 1]? = some t := by simp
theorem g_y (p s : List α) (y t : α) : (p ++ [y] ++ [t] ++ s)[p.length]? = some y := by simp
theorem g_swp (p s : List α) (y t : α) : Go.Sort.swp (p ++ [y] ++ [t] ++ s).toArray (p.length + 1) p.length = (p ++ [t] ++ [y] ++ s).toArray := by
  unfold Go.Sort.swp
  rw [g_get (g_t p s y t), g_get (g_y p s y t), List.setIfInBounds_toArray, List.setIfInBounds_toArray]
  congr 1
  simp only [List.append_assoc, List.cons_append, List.nil_append]
  rw [List.set_append_right _ _ (by omega), List.set_append_right _ _ (by omega)]
  simp
theorem g_inner (lt : α → α → Bool) (hlt : ∀ a b, lt a b = decide (key a < key b)) (t : α) : ∀ (n : Nat) (p s : List α), p.length = n → Go.Sort.insInner lt 0 n (p ++ [t] ++ s).toArray = (gR key t p ++ s).toArray
  | 0, p, s, h => by
    obtain rfl : p = [] := List.eq_nil_of_length_eq_zero h
    simp [Go.Sort.insInner, gR, gRev]
  | n + 1, p, s, h => by
    obtain ⟨p', y, rfl⟩ : ∃ p' y, p = p' ++ [y] := ⟨p.dropLast, p.getLast (by intro e; rw [e] at h; simp at h), (List.dropLast_concat_getLast _).symm⟩
    have hn : p'.length = n := by simp at h; exact h
    unfold Go.Sort.insInner
    have e1 : (p' ++ [y] ++ [t] ++ s).toArray[n + 1]! = t := by rw [← hn]; exact g_get (g_t p' s y t)
    have e2 : (p' ++ [y] ++ [t] ++ s).toArray[n]! = y := by rw [← hn]; exact g_get (g_y p' s y t)
    rw [e1, e2, hlt, gR_snoc]
    by_cases hc : key t < key y
    · rw [if_pos (by simp [hc]), if_pos hc, ← hn, g_swp, hn]
      have := g_inner lt hlt t n p' ([y] ++ s) hn
      simpa using this
    · rw [if_neg (by simp [hc]), if_neg hc]
theorem g_outer (lt : α → α → Bool) (hlt : ∀ a b, lt a b = decide (key a < key b)) : ∀ (m : Nat) (P R : List α), R.length = m → Go.Sort.insOuter lt 0 (P.length + R.length) P.length (P ++ R).toArray = (R.foldl (fun acc t => gR key t acc) P).toArray
  | 0, P, R, h => by
    obtain rfl : R = [] := List.eq_nil_of_length_eq_zero h
    rw [Go.Sort.insOuter, if_neg (by simp)]
    simp
  | m + 1, P, t :: R, h => by
    rw [Go.Sort.insOuter, if_pos (by simp)]
    have e := g_inner key lt hlt t P.length P R rfl
    rw [show P ++ t :: R = P ++ [t] ++ R by simp, e]
    have e2 := g_outer lt hlt m (gR key t P) R (by simpa using h)
    rw [gR_len] at e2
    rw [List.foldl_cons, ← e2]
    simp only [List.length_cons]
    congr 1
    omega
theorem g_sort (lt : α → α → Bool) (hlt : ∀ a b, lt a b = decide (key a < key b)) (l : List α) (h : 1 ≤ l.length) : (Go.Sort.insertionSort lt l.toArray 0 l.length).toList = l.foldl (fun acc t => gR key t acc) [] := by
  obtain ⟨x, r, rfl⟩ : ∃ x r, l = x :: r := by
    cases l with
    | nil => simp at h
    | cons x r => exact ⟨x, r, rfl⟩
  have e := g_outer key lt hlt r.length [x] r rfl
  unfold Go.Sort.insertionSort
  rw [show (x :: r).length = [x].length + r.length by simp; omega]
  show (Go.Sort.insOuter lt 0 ([x].length + r.length) [x].length ([x] ++ r).toArray).toList = _
  rw [e]
  simp [gR, gRev]
def gS (l : List α) : Prop := l.Pairwise fun a b => key a ≤ key b
theorem g_mem {t z : α} : ∀ {r : List α}, z ∈ gRev key t r → z = t ∨ z ∈ r
  | [], h => by simp [gRev] at h; exact .inl h
  | y :: r, h => by
    unfold gRev at h
    split at h
    · rcases List.mem_cons.1 h with rfl | h
      · exact .inr List.mem_cons_self
      · exact (g_mem h).imp id (List.mem_cons_of_mem _)
    · rcases List.mem_cons.1 h with rfl | h
      · exact .inl rfl
      · exact .inr h
theorem gRev_srt (t : α) : ∀ (r : List α), r.Pairwise (fun a b => key b ≤ key a) → (gRev key t r).Pairwise (fun a b => key b ≤ key a)
  | [], _ => by simp [gRev]
  | y :: r, h => by
    obtain ⟨h1, h2⟩ := List.pairwise_cons.1 h
    unfold gRev
    split
    · rename_i hc
      refine List.pairwise_cons.2 ⟨fun z hz => ?_, gRev_srt t r h2⟩
      rcases g_mem key hz with rfl | hz
      · omega
      · exact h1 z hz
    · rename_i hc
      refine List.pairwise_cons.2 ⟨fun z hz => ?_, h⟩
      rcases List.mem_cons.1 hz with rfl | hz
      · omega
      · have := h1 z hz
        omega
theorem gR_srt (t : α) {l : List α} (h : gS key l) : gS key (gR key t l) := by
  unfold gS gR
  rw [List.pairwise_reverse]
  exact gRev_srt key t _ (by rw [List.pairwise_reverse]; exact h)
theorem gL_eq (t : α) (l : List α) (h : gS key l) : gL key t l = gR key t l := by
  obtain ⟨n, hn⟩ : ∃ n, l.length = n := ⟨_, rfl⟩
  induction n generalizing l with
  | zero =>
    obtain rfl := List.eq_nil_of_length_eq_zero hn
    simp [gL, gR, gRev]
  | succ n ih =>
    obtain ⟨p, y, rfl⟩ : ∃ p y, l = p ++ [y] := ⟨l.dropLast, l.getLast (by intro e; rw [e] at hn; simp at hn), (List.dropLast_concat_getLast _).symm⟩
    obtain ⟨h1, _, h2⟩ := List.pairwise_append.1 h
    have h3 : ∀ z ∈ p, key z ≤ key y := fun z hz => h2 z hz y (by simp)
    rw [gR_snoc]
    by_cases hc : key t < key y
    · rw [if_pos hc, ← ih p h1 (by simpa using hn)]
      unfold gL
      rw [List.takeWhile_append, List.dropWhile_append]
      have hy : ¬ key y ≤ key t := by omega
      by_cases ha : ∀ z ∈ p, key z ≤ key t
      · have e1 : p.takeWhile (fun y => decide (key y ≤ key t)) = p := tw_iff.2 (by simpa using ha)
        have e2 : p.dropWhile (fun y => decide (key y ≤ key t)) = [] := dw_iff.2 (by simpa using ha)
        rw [e1, e2]
        simp [hy]
      · have e1 : ¬ (p.takeWhile (fun y => decide (key y ≤ key t))).length = p.length := by
          intro e
          apply ha
          have e3 : p.takeWhile (fun y => decide (key y ≤ key t)) = p := (List.takeWhile_prefix _).eq_of_length e
          simpa using tw_iff.1 e3
        have e2 : ¬ (p.dropWhile (fun y => decide (key y ≤ key t))).isEmpty = true := by
          intro e
          apply ha
          have e3 := List.isEmpty_iff.1 e
          simpa using dw_iff.1 e3
        rw [if_neg e1, if_neg e2]
        simp
    · rw [if_neg hc]
      have ha : ∀ z ∈ p ++ [y], key z ≤ key t := by
        intro z hz
        rcases List.mem_append.1 hz with hz | hz
        · have := h3 z hz
          omega
        · rw [List.mem_singleton.1 hz]
          omega
      unfold gL
      rw [tw_iff.2 (by simpa using ha), dw_iff.2 (by simpa using ha)]
      simp
theorem gfold_eq (R : List α) : ∀ (P : List α), gS key P → R.foldl (fun acc t => gL key t acc) P = R.foldl (fun acc t => gR key t acc) P := by
  induction R with
  | nil => exact fun P h => rfl
  | cons t R ih =>
    intro P h
    rw [List.foldl_cons, List.foldl_cons, gL_eq key t P h]
    exact ih _ (gR_srt key t h)
end
theorem gRev_map {α β : Type} (f : α → β) (key : β → Int) (t : α) : ∀ r : List α, (gRev (fun a => key (f a)) t r).map f = gRev key (f t) (r.map f)
  | [] => rfl
  | y :: r => by
    simp only [gRev, List.map_cons]
    split
    · rw [List.map_cons, gRev_map f key t r]
    · rfl
theorem gfold_map {α β : Type} (f : α → β) (key : β → Int) (R : List α) : ∀ P : List α, (R.foldl (fun acc t => gR (fun a => key (f a)) t acc) P).map f = (R.map f).foldl (fun acc t => gR key t acc) (P.map f) := by
  induction R with
  | nil => exact fun P => rfl
  | cons t R ih =>
    intro P
    rw [List.foldl_cons, List.map_cons, List.foldl_cons, ih]
    congr 1
    unfold gR
    rw [List.map_reverse, gRev_map, List.map_reverse]
theorem listFrom_idx (m : Nat) : ∀ i : Int, listFrom id m i = (List.range m).map fun (j : Nat) => i + (j : Int) := by
  induction m with
  | zero => exact fun i => rfl
  | succ m ih =>
    intro i
    rw [show listFrom id (m + 1) i = i :: listFrom id m (i + 1) from rfl, ih, List.range_succ_eq_map]
    simp only [List.map_cons, List.map_map, Function.comp_def]
    congr 1
    · simp
    · apply List.map_congr_left
      intro a _
      omega
theorem sortI_eq (X : List S63) (h : 1 ≤ X.length) : sortI X = (listFrom id X.length 0).foldl (fun acc j => insI X j acc) [] := by
  letI : Inhabited (Fin X.length) := ⟨⟨0, h⟩⟩
  have e1 : (fun (acc : List Int) (j : Int) => insI X j acc) = fun acc j => gL (fun j : Int => (rd_T63 X j).f1) j acc := rfl
  rw [e1, gfold_eq _ _ _ (by simp [gS])]
  have e2 := g_sort (fun i : Fin X.length => (rd_T63 X (i.val : Int)).f1) (Go.Proofs.ltOf (cfN X)) (fun a b => by
    unfold Go.Proofs.ltOf cfN cmpN
    by_cases h : (rd_T63 X (a.val : Int)).f1 < (rd_T63 X (b.val : Int)).f1
    · simp [h]
    · by_cases h2 : (rd_T63 X (a.val : Int)).f1 > (rd_T63 X (b.val : Int)).f1
      · simp [h, h2]
      · simp [h, h2]) (List.ofFn fun i : Fin X.length => i) (by simpa using h)
  have e3 := gfold_map (fun i : Fin X.length => (i.val : Int)) (fun j : Int => (rd_T63 X j).f1) (List.ofFn fun i : Fin X.length => i) []
  rw [List.map_nil] at e3
  have e4 : (List.ofFn fun i : Fin X.length => i).map (fun i : Fin X.length => (i.val : Int)) = listFrom id X.length 0 := by
    rw [listFrom_idx]
    apply List.ext_getElem?
    intro j
    by_cases hj : j < X.length
    · simp [hj]
    · rw [List.getElem?_eq_none (by simp; omega), List.getElem?_eq_none (by simp; omega)]
  rw [e4] at e3
  rw [← e3, ← e2]
  unfold sortI
  rw [dif_pos h]
  simp
def flood (X : List S63) : List Int × Bool := if goodT X = true then (sortI X, true) else ([], false)
theorem specFloodOrder_ev (X : List S63) (hX : X.length ≤ 1048576) : Ev (fun k => spec_FloodOrder.f k X) (flood X) ∧ (flood X).1.length ≤ 1048576 := by
  unfold spec_FloodOrder.f flood
  cases hg : goodT X with
  | true =>
    obtain ⟨h1, h2, ok⟩ := goodT_le hg
    obtain ⟨ord, e1, e2, e3, e4, e5⟩ := order_ev X (by omega) X.length 0 [] (by omega) (by omega) rfl (by simp)
    rw [if_pos rfl, sortI_eq X h1, ← e4]
    refine ⟨Ev.bind (leTanks_ev X hX) ?_, by dsimp only; omega⟩
    try dsimp only
    rw [hg]
    exact Ev.ifT rfl (Ev.bind (g := fun k => spec_leOrder.f k X) e1 (Ev.now _))
  | false =>
    rw [if_neg (by decide)]
    refine ⟨Ev.bind (leTanks_ev X hX) ?_, by simp⟩
    try dsimp only
    rw [hg]
    exact Ev.ifF (by decide) (Ev.now _)
theorem implFloodOrder_val (X : List S63) : impl_FloodOrder.f X = some (flood X) := by
  unfold impl_FloodOrder.f flood
  rw [show impl_AreTanks.f X = some (goodT X) from rfl, Option.bind_some]
  split <;> rfl
theorem FnExactFloodOrder : ∀ (l0 : (List S66)), (l0.length ≤ maxLen ∧ ∀ y2 ∈ l0, ((Lit.int .i64 y2.f0).wf = true) ∧ ((Lit.int .i64 y2.f1).wf = true) ∧ ((Lit.int .i64 y2.f2).wf = true)) → ∃ k, laws_FnExactFloodOrder.f k l0 = some true := by
  intro t ht
  refine Ev.rounds (?_ : Ev (fun k => laws_FnExactFloodOrder.f k t) true)
  have b1 := ht.1
  simp only [maxLen] at b1
  unfold laws_FnExactFloodOrder.f
  rw [szTankS_val t (by omega)]
  refine Ev.now_ ?_
  by_cases hn : (1048576 : Int) - (t.length : Int) < 0
  · rw [if_pos hn]
    exact Ev.ifT (by decide) (Ev.now _)
  rw [if_neg hn]
  refine Ev.ifF hn ?_
  have ht1 : t.length ≤ 1048576 := by omega
  have hT1 : (toT t).length ≤ 1048576 := by rw [toT_length]; exact ht1
  obtain ⟨hS, ha⟩ := specFloodOrder_ev (toT t) hT1
  have hI : Ev (fun _ => impl_FloodOrder.f (toT t)) (flood (toT t)) := by rw [implFloodOrder_val]; exact Ev.now _
  generalize flood (toT t) = q at hS hI ha
  obtain ⟨a, b⟩ := q
  dsimp only at ha
  obtain ⟨y, hM⟩ := markTankS_ev (toT t) hT1
  refine Ev.bind (toTankS_ev t ht1) ?_
  try dsimp only
  refine Ev.bind hS ?_
  try dsimp only
  refine Ev.bind (toTankS_ev t ht1) ?_
  try dsimp only
  refine Ev.bind hI ?_
  try dsimp only
  refine Ev.bind (eqIntS_ev a ha) ?_
  try dsimp only
  refine Ev.ifT rfl (Ev.step (fun k => rfl) ?_)
  refine Ev.ifF (by simp) ?_
  refine Ev.bind (toTankS_ev t ht1) ?_
  try dsimp only
  refine Ev.bind (eqTankS_ev (toT t) hT1) ?_
  try dsimp only
  refine Ev.ifT rfl (Ev.bind hM ?_)
  try dsimp only
  refine Ev.ifF (by omega) ?_
  refine Ev.bind (eqIntS_ev a ha) ?_
  try dsimp only
  refine Ev.ifT rfl (Ev.step (fun k => rfl) ?_)
  refine Ev.ifF (by simp) ?_
  refine Ev.bind (markIntS_ev a 1 (by omega) (by omega) ha) ?_
  try dsimp only
  refine Ev.bind (heldIntS_ev 1 a.length (by omega) (by omega) ha) ?_
  try dsimp only
  refine Ev.ifF (by omega) (Ev.ifT rfl ?_)
  refine Ev.bind (toTankS_ev t ht1) ?_
  try dsimp only
  refine Ev.bind hI ?_
  try dsimp only
  refine Ev.bind (eqIntS_ev a ha) ?_
  try dsimp only
  refine Ev.ifT rfl (Ev.step (fun k => rfl) ?_)
  refine Ev.ifF (by simp) ?_
  refine Ev.bind (heldIntS_ev 1 a.length (by omega) (by omega) ha) ?_
  try dsimp only
  exact Ev.ifF (by omega) (Ev.ifT rfl (Ev.now _))

end Go.Proofs.Ytedkbaadbnpkoaa.Pure

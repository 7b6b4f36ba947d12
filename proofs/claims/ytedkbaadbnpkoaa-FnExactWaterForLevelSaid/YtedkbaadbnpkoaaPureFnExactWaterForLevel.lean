/- The pure statement of the law FnExactWaterForLevel: what its printed functions compute is true for every input. No conditions. -/
import Derived.Test.YtedkbaadbnpkoaaPFnExactWaterForLevelx7
import Derived.Test.YtedkbaadbnpkoaaPl
namespace Go.Proofs.Ytedkbaadbnpkoaa.Pure
open Go.RowKit Go.Proofs.Ytedkbaadbnpkoaa.PFnExactWaterForLevel Go.Proofs.YtedkbaadbnpkoaaW.PrintWords Go.Proofs.YtedkbaadbnpkoaaW.PrintLast Go.Proofs.Ytedkbaadbnpkoaa.Pl
set_option linter.unusedVariables false
set_option linter.unusedSimpArgs false

theorem within_val (x a b : Int) : impl_within.f x a b = some (decide (a ≤ x ∧ x ≤ b)) := by
  unfold impl_within.f
  by_cases h : a ≤ x <;> simp [h]
theorem in_val (x a b : Int) : spec_l1In.f x a b = some (decide (a ≤ x ∧ x ≤ b)) := within_val x a b
theorem szTankS_val (l : List S66) (hl : l.length ≤ 9223372036854775807) : laws_szTankS.f l 1048576 = some (if (1048576 : Int) - (l.length : Int) < 0 then -1 else 1048576 - (l.length : Int)) := by
  unfold laws_szTankS.f
  rw [w64 (x := 1048576 - (l.length : Int)) (by omega) (by omega)]
  split <;> rfl
def toT (l : List S66) : List S63 := l.map fun x => ⟨x.f0, x.f1, x.f2⟩
theorem toT_length (l : List S66) : (toT l).length = l.length := by simp [toT]
theorem toTankS_ev (l : List S66) (hl : l.length ≤ 1048576) : Ev (fun k => laws_toTankS.f k l) (toT l) := by
  have key : ∀ (m : Nat) (i : Int) (y : List S63), 0 ≤ i → (l.length : Int) - i = m → y.length = l.length → (∀ j : Nat, j < i.toNat → y[j]? = (toT l)[j]?) → Ev (fun k => laws_toTankS.l0 k l y i) (toT l) := by
    intro m
    induction m with
    | zero =>
      intro i y h0 hm hyl hj
      refine Ev.step (f := fun _ => some y) (fun k => by simp only [laws_toTankS.l0]; rw [if_neg (by omega)]) ?_
      have : y = toT l := by
        apply List.ext_getElem?
        intro j
        by_cases h : j < l.length
        · exact hj j (by omega)
        · rw [List.getElem?_eq_none (by omega), List.getElem?_eq_none (by rw [toT_length]; omega)]
      rw [this]
      exact Ev.now _
    | succ m ih =>
      intro i y h0 hm hyl hj
      have hi : i.toNat < l.length := by omega
      refine Ev.step (f := fun k => laws_toTankS.l0 k l (y.set i.toNat ⟨(rd_T66 l i).f0, (rd_T66 l i).f1, (rd_T66 l i).f2⟩) (i + 1)) (fun k => ?_) ?_
      · simp only [laws_toTankS.l0, laws_toTank.f, Option.bind_some]
        rw [if_pos (by omega), if_pos h0, if_pos (by omega), w64 (x := i + 1) (by omega) (by omega)]
      · refine ih (i + 1) _ (by omega) (by omega) (by rw [List.length_set]; exact hyl) (fun j hlt => ?_)
        by_cases e : j = i.toNat
        · subst e
          rw [List.getElem?_set_self (by omega)]
          simp only [toT, List.getElem?_map, List.getElem?_eq_getElem hi, Option.map_some]
          unfold rd_T66
          rw [getD_eq z66 hi]
        · rw [List.getElem?_set_ne (fun e' => e e'.symm)]
          exact hj j (by omega)
  unfold laws_toTankS.f
  refine Ev.ifT (by omega) (Ev.ifT (by omega) ?_)
  exact key l.length 0 _ (by omega) (by omega) (by simp) (fun j hj => absurd hj (by simp))
theorem eqTankS_ev (l : List S63) (hl : l.length ≤ 1048576) : Ev (fun k => laws_eqTankS.f k l l) true := by
  refine Ev.congr (fun k => ?_) (same_ev (l0 := laws_eqTankS.l0) (fun k x i => by simp only [laws_eqTankS.l0, laws_eqTank.f, if_true, Option.bind_some]) l (by omega))
  show laws_eqTankS.f k l l = _
  unfold laws_eqTankS.f
  rw [if_pos rfl]
def goodT (l : List S63) : Bool := decide (1 ≤ (l.length : Int) ∧ (l.length : Int) ≤ 6) && !(l.any fun x => !tankOk x)
theorem leTanks_ev (l : List S63) (hl : l.length ≤ 1048576) : Ev (fun k => spec_leTanks.f k l) (goodT l) := by
  have ht : ∀ x : S63, spec_leTank.f x.f0 x.f1 x.f2 = some (tankOk x) := fun x => isTank_val x.f0 x.f1 x.f2
  unfold spec_leTanks.f goodT
  rw [in_val]
  refine Ev.now_ ?_
  by_cases h : 1 ≤ (l.length : Int) ∧ (l.length : Int) ≤ 6
  · rw [decide_eq_true h, Bool.true_and]
    refine Ev.ifT rfl ?_
    have e : (!(l.any fun x => !tankOk x)) = l.all tankOk := by
      rw [List.any_eq_not_all_not, Bool.not_not]
      congr 1
      funext x
      simp
    rw [e]
    refine all_ev (l0 := fun k x i => spec_leTanks.l0 k x (x.length : Int) i) z63 tankOk (fun k x i h0 => ?_) l (by omega)
    show spec_leTanks.l0 (k + 1) x (x.length : Int) i = _
    simp only [spec_leTanks.l0, ht, Option.bind_some]
    by_cases hi : i < (x.length : Int)
    · rw [if_pos hi, if_pos h0, if_pos hi, if_pos hi]
      rfl
    · rw [if_neg hi, if_neg hi]
  · rw [decide_eq_false h, Bool.false_and]
    exact Ev.ifF (by decide) (Ev.now _)
theorem abs_val (x : Int) : spec_l1Abs.f x = some (if x > wrap64 (-x) then x else wrap64 (-x)) := by
  unfold spec_l1Abs.f spec_l1Most.f
  split <;> rfl
theorem common_abs_ev {n d : Int} (hn0 : -9223372036854775807 ≤ n) (hn1 : n ≤ 9223372036854775807) (hd0 : 0 ≤ d) : Ev (fun k => spec_veCommon.f k (if n > wrap64 (-n) then n else wrap64 (-n)) d) (Int.gcd n d : Int) := by
  have hw : wrap64 (-n) = -n := w64 (by omega) (by omega)
  have := common_ev (l0 := spec_veCommon.l0) (fun _ _ _ => rfl) (a := if n > wrap64 (-n) then n else wrap64 (-n)) (b := d) (by rw [hw]; split <;> omega) hd0
  rw [(gcd_abs n d).resolve_right (by omega)] at this
  exact this
theorem low_fit {n d : Int} (hn0 : -9223372036854775807 ≤ n) (hn1 : n ≤ 9223372036854775807) (hd0 : 0 < d) (hd1 : d ≤ 9223372036854775807) :
    wrap64 (Int.tdiv n (Int.gcd n d)) = (low n d).1 ∧ wrap64 (Int.tdiv d (Int.gcd n d)) = (low n d).2 := by
  have h1 := tdiv_bound n (Int.gcd n d)
  have h2 := tdiv_bound d (Int.gcd n d)
  exact ⟨w64 (by omega) (by omega), w64 (by omega) (by omega)⟩
theorem lowest_ev {n d : Int} (hn0 : -9223372036854775807 ≤ n) (hn1 : n ≤ 9223372036854775807) (hd0 : 0 < d) (hd1 : d ≤ 9223372036854775807) : Ev (fun k => impl_lowest.f k n d) (low n d) := by
  obtain ⟨K, h⟩ := gcd_ev (l0 := impl_gcd.l0) (fun _ _ _ => rfl) (a := n) (b := d) hn0 hn1 (by omega) hd1
  dsimp only at h
  have hp := gcd_pos (a := n) (b := d) (by omega)
  refine ⟨K, fun k hk => ?_⟩
  show impl_lowest.f k n d = _
  unfold impl_lowest.f impl_gcd.f
  rw [h k hk, Option.bind_some, if_neg (by omega), if_neg (by omega), (low_fit hn0 hn1 hd0 hd1).1, (low_fit hn0 hn1 hd0 hd1).2]
theorem leRatio_ev {n d : Int} (hn0 : -9223372036854775807 ≤ n) (hn1 : n ≤ 9223372036854775807) (hd0 : 0 < d) (hd1 : d ≤ 9223372036854775807) : Ev (fun k => spec_leRatio.f k n d) (low n d) := by
  obtain ⟨K, h⟩ := common_abs_ev (n := n) (d := d) hn0 hn1 (by omega)
  dsimp only at h
  have hp := gcd_pos (a := n) (b := d) (by omega)
  refine ⟨K, fun k hk => ?_⟩
  show spec_leRatio.f k n d = _
  unfold spec_leRatio.f
  rw [if_neg (by omega), abs_val, Option.bind_some, h k hk, Option.bind_some, if_neg (by omega), (low_fit hn0 hn1 hd0 hd1).1, (low_fit hn0 hn1 hd0 hd1).2]
theorem tw_iff {α : Type} {p : α → Bool} : ∀ {l : List α}, l.takeWhile p = l ↔ ∀ z ∈ l, p z = true
  | [] => by simp
  | y :: l => by
    rw [List.takeWhile_cons]
    by_cases h : p y = true
    · rw [if_pos h]
      simp [h, tw_iff (l := l)]
    · rw [if_neg h]
      simp [h]
theorem dw_iff {α : Type} {p : α → Bool} : ∀ {l : List α}, l.dropWhile p = [] ↔ ∀ z ∈ l, p z = true
  | [] => by simp
  | y :: l => by
    rw [List.dropWhile_cons]
    by_cases h : p y = true
    · rw [if_pos h]
      simp [h, dw_iff (l := l)]
    · rw [if_neg h]
      simp [h]
def insL (t : S63) (l : List S63) : List S63 := l.takeWhile (fun y => decide (y.f1 ≤ t.f1)) ++ [t] ++ l.dropWhile (fun y => decide (y.f1 ≤ t.f1))
theorem rdT_get {l : List S63} {i : Int} (h0 : 0 ≤ i) (h1 : i < l.length) : l[i.toNat]? = some (rd_T63 l i) := by
  unfold rd_T63
  rw [List.getD_eq_getElem?_getD, List.getElem?_eq_getElem (by omega)]
  rfl
theorem rdT_mem {l : List S63} {i : Int} (h0 : 0 ≤ i) (h1 : i < l.length) : rd_T63 l i ∈ l := List.mem_of_getElem? (rdT_get h0 h1)
theorem rdT_drop {l : List S63} {i : Int} (h0 : 0 ≤ i) (h1 : i < l.length) : l.drop i.toNat = rd_T63 l i :: l.drop (i + 1).toNat := by
  rw [List.drop_eq_getElem_cons (by omega), show (i + 1).toNat = i.toNat + 1 by omega]
  congr 1
  have h := rdT_get h0 h1
  rw [List.getElem?_eq_getElem (by omega)] at h
  exact Option.some.inj h
def insI (X : List S63) (i : Int) (out : List Int) : List Int := out.takeWhile (fun j => decide ((rd_T63 X j).f1 ≤ (rd_T63 X i).f1)) ++ [i] ++ out.dropWhile (fun j => decide ((rd_T63 X j).f1 ≤ (rd_T63 X i).f1))
theorem insI_map (X : List S63) (i : Int) (out : List Int) : (insI X i out).map (rd_T63 X) = insL (rd_T63 X i) (out.map (rd_T63 X)) := by
  unfold insI insL
  rw [List.takeWhile_map, List.dropWhile_map]
  simp [Function.comp_def]
theorem insI_len (X : List S63) (i : Int) (out : List Int) : (insI X i out).length = out.length + 1 := by
  have := congrArg List.length (List.takeWhile_append_dropWhile (p := fun j => decide ((rd_T63 X j).f1 ≤ (rd_T63 X i).f1)) (l := out))
  unfold insI
  simp only [List.length_append, List.length_cons, List.length_nil] at this ⊢
  omega
theorem insI_mem {X : List S63} {i : Int} {out : List Int} {z : Int} (h : z ∈ insI X i out) : z = i ∨ z ∈ out := by
  unfold insI at h
  rcases List.mem_append.1 h with h | h
  · rcases List.mem_append.1 h with h | h
    · exact .inr ((List.takeWhile_prefix _).subset h)
    · exact .inl (by simpa using h)
  · exact .inr ((List.dropWhile_suffix _).subset h)
theorem own_val (l : List Int) (hl : l.length ≤ 1048576) : spec_l1Own.f l = some l := by
  unfold spec_l1Own.f
  simp only [Option.bind_some, List.length_nil, List.nil_append]
  rw [if_pos (by omega)]
theorem orderIn_ev (X : List S63) (hX : X.length ≤ 1000) (out : List Int) (i : Int) (hi0 : 0 ≤ i) (hi1 : i < X.length) (ho : ∀ z ∈ out, 0 ≤ z ∧ z < X.length) (hl : out.length ≤ 1000) {r : List Int}
    (hr : Ev (fun k => spec_leOrder.l0 k X (insI X i out) X (X.length : Int) (i + 1)) r) : ∀ (m : Nat) (q : Int), 0 ≤ q → (out.length : Int) - q = m → (∀ z ∈ out.take q.toNat, (rd_T63 X z).f1 ≤ (rd_T63 X i).f1) →
    Ev (fun k => spec_leOrder.l1 k X out i q X (X.length : Int) i (rd_T63 X i).f0 (rd_T63 X i).f1 (rd_T63 X i).f2) r := by
  intro m
  induction m with
  | zero =>
    intro q h0 hm ha
    have hq : q.toNat = out.length := by omega
    rw [hq, List.take_length] at ha
    have e : insI X i out = out ++ [i] := by
      unfold insI
      rw [tw_iff.2 (by simpa using ha), dw_iff.2 (by simpa using ha)]
      simp
    rw [e] at hr
    refine Ev.step (f := fun k => spec_leOrder.l0 k X (out ++ [i]) X (X.length : Int) (i + 1)) (fun k => ?_) hr
    simp only [spec_leOrder.l1]
    rw [if_neg (by omega), if_pos h0, if_pos (by omega), hq, List.take_length, own_val out (by omega), Option.bind_some, if_pos (by omega), Option.bind_some, List.drop_length, Option.bind_some, if_pos (by simp; omega), w64 (by omega) (by omega)]
    simp
  | succ m ih =>
    intro q h0 hm ha
    have hq : q.toNat < out.length := by omega
    have hrd : rd out q = out[q.toNat] := by
      unfold rd
      exact getD_eq 0 hq
    have hz := ho _ (List.getElem_mem hq)
    rw [← hrd] at hz
    by_cases hc : (rd_T63 X (rd out q)).f1 ≤ (rd_T63 X i).f1
    · refine Ev.step (f := fun k => spec_leOrder.l1 k X out i (q + 1) X (X.length : Int) i (rd_T63 X i).f0 (rd_T63 X i).f1 (rd_T63 X i).f2) (fun k => ?_) (ih (q + 1) (by omega) (by omega) ?_)
      · simp only [spec_leOrder.l1]
        rw [if_pos (by omega), if_pos h0, if_pos hz.1, if_pos hz.2, if_pos hc, w64 (by omega) (by omega)]
      · intro z hz2
        rw [show (q + 1).toNat = q.toNat + 1 by omega, List.take_add_one, List.getElem?_eq_getElem hq] at hz2
        rcases List.mem_append.1 hz2 with h | h
        · exact ha z h
        · have : z = out[q.toNat] := by simpa using h
          rw [this, ← hrd]
          exact hc
    · have e : insI X i out = out.take q.toNat ++ [i] ++ out.drop q.toNat := by
        have ed : out.drop q.toNat = rd out q :: out.drop (q.toNat + 1) := by rw [List.drop_eq_getElem_cons hq, hrd]
        have es : out = out.take q.toNat ++ out.drop q.toNat := (List.take_append_drop _ _).symm
        unfold insI
        generalize hp : (fun j => decide ((rd_T63 X j).f1 ≤ (rd_T63 X i).f1)) = p
        have h1 : ∀ z ∈ out.take q.toNat, p z = true := by
          intro z hz2
          rw [← hp]
          exact decide_eq_true (ha z hz2)
        have h2 : p (rd out q) = false := by
          rw [← hp]
          exact decide_eq_false hc
        have t1 : out.takeWhile p = out.take q.toNat := by
          conv => lhs; rw [es]
          rw [List.takeWhile_append_of_pos h1, ed, List.takeWhile_cons, if_neg (by rw [h2]; decide), List.append_nil]
        have t2 : out.dropWhile p = out.drop q.toNat := by
          conv => lhs; rw [es]
          rw [List.dropWhile_append_of_pos h1, ed, List.dropWhile_cons, if_neg (by rw [h2]; decide)]
        rw [t1, t2]
      rw [e] at hr
      refine Ev.step (f := fun k => spec_leOrder.l0 k X (out.take q.toNat ++ [i] ++ out.drop q.toNat) X (X.length : Int) (i + 1)) (fun k => ?_) hr
      simp only [spec_leOrder.l1]
      have hl1 : (out.take q.toNat).length ≤ 1000 := by rw [List.length_take]; omega
      have hl2 : (out.drop q.toNat).length ≤ 1000 := by rw [List.length_drop]; omega
      rw [if_pos (by omega), if_pos h0, if_pos hz.1, if_pos hz.2, if_neg hc, if_pos (by omega), own_val _ (by omega), Option.bind_some, if_pos (by omega), Option.bind_some, Option.bind_some, if_pos (by rw [List.length_append]; simp only [List.length_cons, List.length_nil]; omega), w64 (by omega) (by omega)]
theorem order_ev (X : List S63) (hX : X.length ≤ 500) : ∀ (m : Nat) (i : Int) (out : List Int), 0 ≤ i → (X.length : Int) - i = m → (out.length : Int) = i → (∀ z ∈ out, 0 ≤ z ∧ z < X.length) →
    ∃ ord : List Int, Ev (fun k => spec_leOrder.l0 k X out X (X.length : Int) i) ord ∧ (∀ z ∈ ord, 0 ≤ z ∧ z < X.length) ∧ ord.length = X.length ∧ ord = (listFrom id m i).foldl (fun acc j => insI X j acc) out ∧ ord.map (rd_T63 X) = (X.drop i.toNat).foldl (fun acc t => insL t acc) (out.map (rd_T63 X)) := by
  intro m
  induction m with
  | zero =>
    intro i out h0 hm hl ho
    refine ⟨out, Ev.step (f := fun _ => some out) (fun k => by simp only [spec_leOrder.l0]; rw [if_neg (by omega)]) (Ev.now _), ho, by omega, rfl, ?_⟩
    rw [List.drop_eq_nil_of_le (by omega)]
    rfl
  | succ m ih =>
    intro i out h0 hm hl ho
    obtain ⟨ord, h1, h2, h3, h4, h5⟩ := ih (i + 1) (insI X i out) (by omega) (by omega) (by rw [insI_len]; omega) (fun z hz => by
      rcases insI_mem hz with rfl | hz
      · omega
      · exact ho z hz)
    refine ⟨ord, ?_, h2, h3, ?_, ?_⟩
    · refine Ev.step (f := fun k => spec_leOrder.l1 k X out i 0 X (X.length : Int) i (rd_T63 X i).f0 (rd_T63 X i).f1 (rd_T63 X i).f2) (fun k => ?_) (orderIn_ev X (by omega) out i h0 (by omega) ho (by omega) h1 out.length 0 (by omega) (by omega) (by simp))
      simp only [spec_leOrder.l0]
      rw [if_pos (by omega), if_pos h0, if_pos (by omega)]
    · rw [h4]
      rfl
    · rw [h5, rdT_drop h0 (by omega), List.foldl_cons, insI_map]
def okT (X : List S63) : Prop := ∀ x ∈ X, 1 ≤ x.f0 ∧ x.f0 ≤ 50 ∧ 0 ≤ x.f1 ∧ x.f1 ≤ 100 ∧ 0 ≤ x.f2 ∧ x.f2 ≤ 10000
theorem tankOk_le {x : S63} (h : tankOk x = true) : 1 ≤ x.f0 ∧ x.f0 ≤ 50 ∧ 0 ≤ x.f1 ∧ x.f1 ≤ 100 ∧ 0 ≤ x.f2 ∧ x.f2 ≤ 10000 := by
  unfold tankOk at h
  simp only [Bool.and_eq_true, decide_eq_true_eq] at h
  omega
theorem goodT_le {X : List S63} (h : goodT X = true) : 1 ≤ X.length ∧ X.length ≤ 6 ∧ okT X := by
  unfold goodT at h
  simp only [Bool.and_eq_true, decide_eq_true_eq, Bool.not_eq_true', List.any_eq_false] at h
  refine ⟨by omega, by omega, fun x hx => tankOk_le ?_⟩
  have := h.2 x hx
  simpa using this
def wsum (X : List S63) : Int := (X.map fun x => x.f2).sum
theorem wsum_le {X : List S63} (h : okT X) : 0 ≤ wsum X ∧ wsum X ≤ 10000 * X.length := by
  induction X with
  | nil => simp [wsum]
  | cons x X ih =>
    have h1 := h x List.mem_cons_self
    have h2 := ih (fun y hy => h y (List.mem_cons_of_mem _ hy))
    simp only [wsum, List.map_cons, List.sum_cons, List.length_cons] at h2 ⊢
    omega
theorem waterOf_ev (X : List S63) (hX : X.length ≤ 500) (ok : okT X) : Ev (fun k => impl_waterOf.f k X) (wsum X) := by
  have key : ∀ (m : Nat) (i s : Int), 0 ≤ i → (X.length : Int) - i = m → 0 ≤ s → s ≤ 10000 * i → Ev (fun k => impl_waterOf.l0 k s X (X.length : Int) i) (s + wsum (X.drop i.toNat)) := by
    intro m
    induction m with
    | zero =>
      intro i s h0 hm hs0 hs1
      rw [List.drop_eq_nil_of_le (by omega)]
      exact Ev.step (f := fun _ => some (s + wsum [])) (fun k => by simp only [impl_waterOf.l0]; rw [if_neg (by omega)]; simp [wsum]) (Ev.now _)
    | succ m ih =>
      intro i s h0 hm hs0 hs1
      have hk := ok _ (rdT_mem h0 (show i < X.length by omega))
      rw [rdT_drop h0 (by omega)]
      refine Ev.step (f := fun k => impl_waterOf.l0 k (s + (rd_T63 X i).f2) X (X.length : Int) (i + 1)) (fun k => ?_) ?_
      · simp only [impl_waterOf.l0]
        rw [if_pos (by omega), if_pos h0, if_pos (by omega), w64 (x := i + 1) (by omega) (by omega), w64 (by omega) (by omega)]
      · have := ih (i + 1) (s + (rd_T63 X i).f2) (by omega) (by omega) (by omega) (by omega)
        rw [show s + wsum (rd_T63 X i :: X.drop (i + 1).toNat) = s + (rd_T63 X i).f2 + wsum (X.drop (i + 1).toNat) by simp [wsum]; omega]
        exact this
  have := key X.length 0 0 (by omega) (by omega) (by omega) (by omega)
  simpa [impl_waterOf.f] using this
theorem low_mul {n d : Int} (hd : 0 < d) : (low n d).1 * Int.gcd n d = n ∧ (low n d).2 * Int.gcd n d = d :=
  ⟨Int.tdiv_mul_cancel (Int.gcd_dvd_left ..), Int.tdiv_mul_cancel (Int.gcd_dvd_right ..)⟩
theorem low_bound {n d : Int} (hn : 0 ≤ n) (hd : 0 < d) : 0 ≤ (low n d).1 ∧ (low n d).1 ≤ n ∧ 0 < (low n d).2 ∧ (low n d).2 ≤ d := by
  have h1 := tdiv_bound n (Int.gcd n d)
  have h2 := tdiv_bound d (Int.gcd n d)
  have h3 := low_den_pos (n := n) hd
  have h4 : 0 ≤ (low n d).1 := Int.tdiv_nonneg hn (Int.natCast_nonneg _)
  unfold low at h3 h4 ⊢
  dsimp only at h3 h4 ⊢
  omega
theorem low_scale {g a b : Int} (hg : 0 < g) : low (g * a) (g * b) = low a b := by
  unfold low
  have h : (Int.gcd (g * a) (g * b) : Int) = g * (Int.gcd a b : Int) := by
    rw [Int.gcd_mul_left, Int.natCast_mul, Int.natAbs_of_nonneg (by omega)]
  rw [h, Int.mul_tdiv_mul_of_pos _ _ hg, Int.mul_tdiv_mul_of_pos _ _ hg]
def levR (n d : Int) : Bool := decide (1 ≤ d ∧ d ≤ 1000000) && (decide (-1000000000000 ≤ n ∧ n ≤ 1000000000000) && ((Int.gcd n d : Int) == 1))
theorem implLevR_ev (n d : Int) : Ev (fun k => impl_isLevelRatio.f k n d) (levR n d) := by
  unfold impl_isLevelRatio.f levR
  rw [within_val]
  refine Ev.now_ ?_
  by_cases h1 : 1 ≤ d ∧ d ≤ 1000000
  · rw [decide_eq_true h1, Bool.true_and, within_val]
    refine Ev.ifT rfl (Ev.now_ ?_)
    by_cases h2 : -1000000000000 ≤ n ∧ n ≤ 1000000000000
    · rw [decide_eq_true h2, Bool.true_and]
      obtain h := gcd_ev (l0 := impl_gcd.l0) (fun _ _ _ => rfl) (a := n) (b := d) (by omega) (by omega) (by omega) (by omega)
      exact Ev.ifT rfl (Ev.bind (g := fun k => impl_gcd.f k n d) h (Ev.now _))
    · rw [decide_eq_false h2, Bool.false_and]
      exact Ev.ifF (by decide) (Ev.now _)
  · rw [decide_eq_false h1, Bool.false_and]
    exact Ev.ifF (by decide) (Ev.now _)
theorem specLevR_ev (n d : Int) : Ev (fun k => spec_leGood.f k n d) (levR n d) := by
  unfold spec_leGood.f levR
  rw [in_val]
  refine Ev.now_ ?_
  by_cases h1 : 1 ≤ d ∧ d ≤ 1000000
  · rw [decide_eq_true h1, Bool.true_and, in_val]
    refine Ev.ifT rfl (Ev.now_ ?_)
    by_cases h2 : -1000000000000 ≤ n ∧ n ≤ 1000000000000
    · rw [decide_eq_true h2, Bool.true_and, abs_val]
      refine Ev.ifT rfl (Ev.now_ ?_)
      exact Ev.bind (common_abs_ev (n := n) (d := d) (by omega) (by omega) (by omega)) (Ev.now _)
    · rw [decide_eq_false h2, Bool.false_and]
      exact Ev.ifF (by decide) (Ev.now _)
  · rw [decide_eq_false h1, Bool.false_and]
    exact Ev.ifF (by decide) (Ev.now _)
/-- tanks and a level that may be asked for -/
def askd (X : List S63) (n d : Int) : Bool := goodT X && (levR n d && (decide (1 ≤ d ∧ d ≤ 1000) && decide (0 ≤ n ∧ n ≤ 1000000)))
theorem specAskd_ev (X : List S63) (n d : Int) (hX : X.length ≤ 1048576) : Ev (fun k => spec_leAsked.f k X n d) (askd X n d) := by
  unfold spec_leAsked.f askd
  refine Ev.bind (leTanks_ev X hX) ?_
  try dsimp only
  cases hg : goodT X with
  | false => exact Ev.ifF (by decide) (Ev.now _)
  | true =>
    refine Ev.ifT rfl (Ev.bind (specLevR_ev n d) ?_)
    cases hr : levR n d with
    | false => exact Ev.ifF (by decide) (Ev.now _)
    | true =>
      rw [in_val]
      refine Ev.ifT rfl (Ev.now_ ?_)
      by_cases h1 : 1 ≤ d ∧ d ≤ 1000
      · rw [decide_eq_true h1, in_val]
        exact Ev.ifT rfl (Ev.now_ (Ev.now _))
      · rw [decide_eq_false h1]
        exact Ev.ifF (by decide) (Ev.now _)
theorem implAskd_ev (X : List S63) (n d : Int) : Ev (fun k => impl_isTankLevel.f k X n d) (askd X n d) := by
  unfold impl_isTankLevel.f askd
  rw [show impl_AreTanks.f X = some (goodT X) from rfl]
  refine Ev.now_ ?_
  cases hg : goodT X with
  | false => exact Ev.ifF (by decide) (Ev.now _)
  | true =>
    refine Ev.ifT rfl (Ev.bind (implLevR_ev n d) ?_)
    cases hr : levR n d with
    | false => exact Ev.ifF (by decide) (Ev.now _)
    | true =>
      refine Ev.ifT rfl ?_
      have hd : 1 ≤ d := by
        unfold levR at hr
        simp only [Bool.and_eq_true, decide_eq_true_eq] at hr
        omega
      by_cases h1 : d ≤ 1000
      · rw [decide_eq_true (show 1 ≤ d ∧ d ≤ 1000 from ⟨hd, h1⟩), within_val]
        exact Ev.ifT h1 (Ev.now_ (Ev.now _))
      · rw [decide_eq_false (show ¬ (1 ≤ d ∧ d ≤ 1000) from fun h => h1 h.2)]
        exact Ev.ifF h1 (Ev.now _)
theorem askd_le {X : List S63} {n d : Int} (h : askd X n d = true) : goodT X = true ∧ 1 ≤ d ∧ d ≤ 1000 ∧ 0 ≤ n ∧ n ≤ 1000000 := by
  unfold askd at h
  simp only [Bool.and_eq_true, decide_eq_true_eq] at h
  exact ⟨h.1, h.2.2.1.1, h.2.2.1.2, h.2.2.2.1, h.2.2.2.2⟩
def bel1 (n d : Int) (x : S63) : Int := x.f0 * (if n - x.f1 * d ≤ 0 then 0 else n - x.f1 * d)
def bel (n d : Int) (l : List S63) : Int := (l.map (bel1 n d)).sum
theorem bel1_le {n d : Int} {x : S63} (hx : 1 ≤ x.f0 ∧ x.f0 ≤ 50 ∧ 0 ≤ x.f1 ∧ x.f1 ≤ 100 ∧ 0 ≤ x.f2 ∧ x.f2 ≤ 10000) (hd : 1 ≤ d ∧ d ≤ 1000 ∧ 0 ≤ n ∧ n ≤ 1000000) : 0 ≤ x.f1 * d ∧ x.f1 * d ≤ 100000 ∧ 0 ≤ bel1 n d x ∧ bel1 n d x ≤ 50000000 := by
  have h1 := Int.mul_nonneg (show 0 ≤ x.f1 by omega) (show 0 ≤ d by omega)
  have h2 : x.f1 * d ≤ 100 * 1000 := Int.mul_le_mul (by omega) (by omega) (by omega) (by omega)
  unfold bel1
  split
  · omega
  · have h3 := Int.mul_nonneg (show 0 ≤ x.f0 by omega) (show 0 ≤ n - x.f1 * d by omega)
    have h4 : x.f0 * (n - x.f1 * d) ≤ 50 * 1000000 := Int.mul_le_mul (by omega) (by omega) (by omega) (by omega)
    omega
theorem implBel_ev {X : List S63} {n d : Int} (hX : X.length ≤ 12) (ok : okT X) (hd : 1 ≤ d ∧ d ≤ 1000 ∧ 0 ≤ n ∧ n ≤ 1000000) : ∀ (m : Nat) (i s : Int), 0 ≤ i → (X.length : Int) - i = m → 0 ≤ s → s ≤ 50000000 * i →
    Ev (fun k => impl_below.l0 k s X (X.length : Int) i n d) (s + bel n d (X.drop i.toNat)) ∧ 0 ≤ s + bel n d (X.drop i.toNat) ∧ s + bel n d (X.drop i.toNat) ≤ 50000000 * X.length := by
  intro m
  induction m with
  | zero =>
    intro i s h0 hm hs0 hs1
    rw [List.drop_eq_nil_of_le (by omega)]
    have e : s + bel n d [] = s := by simp [bel]
    rw [e]
    exact ⟨Ev.step (f := fun _ => some s) (fun k => by simp only [impl_below.l0]; rw [if_neg (by omega)]) (Ev.now _), hs0, by omega⟩
  | succ m ih =>
    intro i s h0 hm hs0 hs1
    have hk := ok _ (rdT_mem h0 (show i < X.length by omega))
    have hb := bel1_le hk hd
    have e : s + bel n d (X.drop i.toNat) = s + bel1 n d (rd_T63 X i) + bel n d (X.drop (i + 1).toNat) := by
      rw [rdT_drop h0 (by omega)]
      simp only [bel, List.map_cons, List.sum_cons]
      omega
    have hi2 := ih (i + 1) (s + bel1 n d (rd_T63 X i)) (by omega) (by omega) (by omega) (by omega)
    rw [e]
    refine ⟨Ev.step (fun k => ?_) hi2.1, hi2.2⟩
    have e2 : (rd_T63 X i).f0 * mx 0 (n - (rd_T63 X i).f1 * d) = bel1 n d (rd_T63 X i) := by
      unfold bel1 mx
      congr 1
      (repeat' split) <;> omega
    simp only [impl_below.l0]
    rw [if_pos (by omega), if_pos h0, if_pos (by omega), w64 (x := i + 1) (by omega) (by omega), w64 (x := (rd_T63 X i).f1 * d) (by omega) (by omega), w64 (x := n - (rd_T63 X i).f1 * d) (by omega) (by omega), e2, w64 (x := bel1 n d (rd_T63 X i)) (by omega) (by omega), w64 (x := s + bel1 n d (rd_T63 X i)) (by omega) (by omega)]
theorem specBel_ev {X : List S63} {n d : Int} (hX : X.length ≤ 12) (ok : okT X) (hd : 1 ≤ d ∧ d ≤ 1000 ∧ 0 ≤ n ∧ n ≤ 1000000) : ∀ (m : Nat) (i s : Int), 0 ≤ i → (X.length : Int) - i = m → 0 ≤ s → s ≤ 50000000 * i →
    Ev (fun k => spec_leBelow.l0 k s X (X.length : Int) i n d) (low (s + bel n d (X.drop i.toNat)) d) := by
  intro m
  induction m with
  | zero =>
    intro i s h0 hm hs0 hs1
    rw [List.drop_eq_nil_of_le (by omega)]
    have e : s + bel n d [] = s := by simp [bel]
    rw [e]
    refine Ev.step (f := fun k => (spec_leRatio.f k s d).bind fun bt => some (bt.1, bt.2)) (fun k => by simp only [spec_leBelow.l0]; rw [if_neg (by omega)]) ?_
    exact Ev.bind (leRatio_ev (by omega) (by omega) (by omega) (by omega)) (Ev.now _)
  | succ m ih =>
    intro i s h0 hm hs0 hs1
    have hk := ok _ (rdT_mem h0 (show i < X.length by omega))
    have hb := bel1_le hk hd
    have e : s + bel n d (X.drop i.toNat) = s + bel1 n d (rd_T63 X i) + bel n d (X.drop (i + 1).toNat) := by
      rw [rdT_drop h0 (by omega)]
      simp only [bel, List.map_cons, List.sum_cons]
      omega
    have hi2 := ih (i + 1) (s + bel1 n d (rd_T63 X i)) (by omega) (by omega) (by omega) (by omega)
    rw [e]
    refine Ev.step (fun k => ?_) hi2
    have e2 : spec_l1Most.f 0 (n - (rd_T63 X i).f1 * d) = some (if n - (rd_T63 X i).f1 * d ≤ 0 then 0 else n - (rd_T63 X i).f1 * d) := by
      unfold spec_l1Most.f
      (repeat' split) <;> first | rfl | (congr 1; omega)
    have e3 : (rd_T63 X i).f0 * (if n - (rd_T63 X i).f1 * d ≤ 0 then 0 else n - (rd_T63 X i).f1 * d) = bel1 n d (rd_T63 X i) := rfl
    simp only [spec_leBelow.l0]
    rw [if_pos (by omega), if_pos h0, if_pos (by omega), w64 (x := i + 1) (by omega) (by omega), w64 (x := (rd_T63 X i).f1 * d) (by omega) (by omega), w64 (x := n - (rd_T63 X i).f1 * d) (by omega) (by omega), e2, Option.bind_some, e3, w64 (x := bel1 n d (rd_T63 X i)) (by omega) (by omega), w64 (x := s + bel1 n d (rd_T63 X i)) (by omega) (by omega)]
theorem fold_head (R : List S63) : ∀ (y : S63) (r : List S63), ∃ q, R.foldl (fun acc t => insL t acc) (y :: r) = minT y R :: q := by
  induction R with
  | nil => exact fun y r => ⟨r, rfl⟩
  | cons t R ih =>
    intro y r
    rw [List.foldl_cons]
    show ∃ q, R.foldl (fun acc t => insL t acc) (insL t (y :: r)) = minT (if t.f1 < y.f1 then t else y) R :: q
    by_cases h : t.f1 < y.f1
    · rw [if_pos h]
      have e : insL t (y :: r) = t :: y :: r := by
        unfold insL
        rw [List.takeWhile_cons, List.dropWhile_cons, if_neg (by simp; omega), if_neg (by simp; omega)]
        rfl
      rw [e]
      exact ih t _
    · rw [if_neg h]
      have e : ∃ z, insL t (y :: r) = y :: z := by
        unfold insL
        rw [List.takeWhile_cons, if_pos (by simp; omega)]
        exact ⟨_, rfl⟩
      obtain ⟨z, e⟩ := e
      rw [e]
      exact ih y _
theorem spec_tail {X : List S63} {n d : Int} (hX : X.length ≤ 12) (ok : okT X) (hd : 1 ≤ d ∧ d ≤ 1000 ∧ 0 ≤ n ∧ n ≤ 1000000) : ∀ (m : Nat) (i s : Int), 0 ≤ i → (X.length : Int) - i = m → 0 ≤ s → s ≤ 10000 * i → s + wsum (X.drop i.toNat) = wsum X →
    Ev (fun k => spec_WaterForLevel.l0 k X s X (X.length : Int) i n d) ((low (bel n d X - wsum X * d) d).1, (low (bel n d X - wsum X * d) d).2, true) := by
  have hw := wsum_le ok
  have hS := implBel_ev (n := n) (d := d) hX ok hd X.length 0 0 (by omega) (by omega) (by omega) (by omega)
  have hT := specBel_ev (n := n) (d := d) hX ok hd X.length 0 0 (by omega) (by omega) (by omega) (by omega)
  rw [Int.toNat_zero, List.drop_zero, Int.zero_add] at hS hT
  intro m
  induction m with
  | zero =>
    intro i s h0 hm hs0 hs1 hs2
    rw [List.drop_eq_nil_of_le (by omega)] at hs2
    have hs3 : s = wsum X := by simpa [wsum] using hs2
    subst hs3
    refine Ev.step (f := fun k => (spec_leBelow.f k X n d).bind fun bt => (spec_leRatio.f k (wrap64 (bt.1 - wrap64 (wsum X * bt.2))) bt.2).bind fun bt2 => some (bt2.1, bt2.2, true)) (fun k => by simp only [spec_WaterForLevel.l0]; rw [if_neg (by omega)]) ?_
    refine Ev.bind (g := fun k => spec_leBelow.f k X n d) hT ?_
    have hb := low_bound (n := bel n d X) (d := d) (by omega) (by omega)
    have hm := low_mul (n := bel n d X) (d := d) (by omega)
    have hp := gcd_pos (a := bel n d X) (b := d) (by omega)
    have h1 := Int.mul_nonneg hw.1 (show 0 ≤ (low (bel n d X) d).2 by omega)
    have h2 : wsum X * (low (bel n d X) d).2 ≤ 120000 * 1000 := Int.mul_le_mul (by omega) (by omega) (by omega) (by omega)
    have e : low (bel n d X - wsum X * d) d = low ((low (bel n d X) d).1 - wsum X * (low (bel n d X) d).2) (low (bel n d X) d).2 := by
      rw [← low_scale (a := (low (bel n d X) d).1 - wsum X * (low (bel n d X) d).2) (b := (low (bel n d X) d).2) hp]
      generalize (Int.gcd (bel n d X) d : Int) = g at hm hp
      rw [Int.mul_sub, Int.mul_comm g (low (bel n d X) d).1, hm.1, Int.mul_left_comm, Int.mul_comm g (low (bel n d X) d).2, hm.2]
    rw [e]
    generalize low (bel n d X) d = q at hb h1 h2
    rw [w64 (x := wsum X * q.2) (by omega) (by omega), w64 (x := q.1 - wsum X * q.2) (by omega) (by omega)]
    exact Ev.bind (leRatio_ev (by omega) (by omega) (by omega) (by omega)) (Ev.now _)
  | succ m ih =>
    intro i s h0 hm hs0 hs1 hs2
    have hk := ok _ (rdT_mem h0 (show i < X.length by omega))
    rw [rdT_drop h0 (by omega)] at hs2
    have hs3 : s + ((rd_T63 X i).f2 + wsum (X.drop (i + 1).toNat)) = wsum X := by simpa [wsum] using hs2
    refine Ev.step (f := fun k => spec_WaterForLevel.l0 k X (s + (rd_T63 X i).f2) X (X.length : Int) (i + 1) n d) (fun k => ?_) (ih (i + 1) _ (by omega) (by omega) (by omega) (by omega) (by omega))
    simp only [spec_WaterForLevel.l0]
    rw [if_pos (by omega), if_pos h0, if_pos (by omega), w64 (x := i + 1) (by omega) (by omega), w64 (by omega) (by omega)]
theorem both_ev (X : List S63) (n d : Int) (hX : X.length ≤ 1048576) : ∃ r : Int × Int × Bool, Ev (fun k => spec_WaterForLevel.f k X n d) r ∧ Ev (fun k => impl_WaterForLevel.f k X n d) r := by
  cases hq : askd X n d with
  | false =>
    refine ⟨(0, 0, false), ?_, ?_⟩
    · unfold spec_WaterForLevel.f
      refine Ev.bind (specAskd_ev X n d hX) ?_
      try dsimp only
      rw [hq]
      refine Ev.ifF (by decide) (Ev.step (fun k => rfl) ?_)
      simp only [spec_WaterForLevel.j0]
      exact Ev.ifT trivial (Ev.now _)
    · unfold impl_WaterForLevel.f
      refine Ev.bind (implAskd_ev X n d) ?_
      try dsimp only
      rw [hq]
      refine Ev.ifF (by decide) (Ev.step (fun k => rfl) ?_)
      simp only [impl_WaterForLevel.j0]
      exact Ev.ifT trivial (Ev.now _)
  | true =>
    obtain ⟨hg, hd⟩ := askd_le hq
    obtain ⟨h1, h2, ok⟩ := goodT_le hg
    have hw := wsum_le ok
    have hS := implBel_ev (n := n) (d := d) (by omega) ok hd X.length 0 0 (by omega) (by omega) (by omega) (by omega)
    rw [Int.toNat_zero, List.drop_zero, Int.zero_add] at hS
    obtain ⟨ord, e1, e2, e3, _, e5⟩ := order_ev X (by omega) X.length 0 [] (by omega) (by omega) rfl (by simp)
    have hx0 : X = rd_T63 X 0 :: X.drop 1 := by
      have := rdT_drop (l := X) (i := 0) (by omega) (by omega)
      simpa using this
    have ho : 0 < ord.length := by omega
    have hrd : rd ord 0 = ord[0] := by
      unfold rd
      exact getD_eq 0 ho
    have hz := e2 _ (List.getElem_mem ho)
    rw [← hrd] at hz
    have hmin : rd_T63 X (rd ord 0) = minT (rd_T63 X 0) (X.drop 1) := by
      have e6 : (X.drop (0 : Int).toNat).foldl (fun acc t => insL t acc) (([] : List Int).map (rd_T63 X)) = (X.drop 1).foldl (fun acc t => insL t acc) [rd_T63 X 0] := by
        rw [Int.toNat_zero, List.drop_zero, List.map_nil]
        conv => lhs; rw [hx0]
        rw [List.foldl_cons]
        rfl
      obtain ⟨q, e7⟩ := fold_head (X.drop 1) (rd_T63 X 0) []
      rw [e6, e7] at e5
      have e8 := congrArg (fun l => l[0]?) e5
      simp only [List.getElem?_map, List.getElem?_eq_getElem ho, Option.map_some, List.getElem?_cons_zero, Option.some.injEq] at e8
      rw [hrd]
      exact e8
    have hmk := ok _ (rdT_mem hz.1 hz.2)
    have hbl := bel1_le (n := n) (d := d) hmk hd
    have hmd := hbl
    by_cases hc : n < (rd_T63 X (rd ord 0)).f1 * d
    · refine ⟨(0, 0, false), ?_, ?_⟩
      · unfold spec_WaterForLevel.f
        refine Ev.bind (specAskd_ev X n d hX) ?_
        try dsimp only
        rw [hq]
        refine Ev.ifT rfl (Ev.bind (g := fun k => spec_leOrder.f k X) e1 ?_)
        refine Ev.ifT (by omega) (Ev.ifT hz.1 (Ev.ifT hz.2 (Ev.step (fun k => rfl) ?_)))
        simp only [spec_WaterForLevel.j0]
        exact Ev.ifT (by rw [w64 (by omega) (by omega)]; exact decide_eq_true hc) (Ev.now _)
      · unfold impl_WaterForLevel.f impl_leastFloor.f impl_Ratio_isLess.f
        refine Ev.bind (implAskd_ev X n d) ?_
        try dsimp only
        rw [hq, if_pos h1, ← hmin, Int.mul_one]
        refine Ev.ifT rfl (Ev.now_ (Ev.now_ (Ev.step (fun k => rfl) ?_)))
        simp only [impl_WaterForLevel.j0]
        exact Ev.ifT (by rw [w64 (x := n) (by omega) (by omega), w64 (by omega) (by omega)]; exact decide_eq_true hc) (Ev.now _)
    · refine ⟨((low (bel n d X - wsum X * d) d).1, (low (bel n d X - wsum X * d) d).2, true), ?_, ?_⟩
      · unfold spec_WaterForLevel.f
        refine Ev.bind (specAskd_ev X n d hX) ?_
        try dsimp only
        rw [hq]
        refine Ev.ifT rfl (Ev.bind (g := fun k => spec_leOrder.f k X) e1 ?_)
        refine Ev.ifT (by omega) (Ev.ifT hz.1 (Ev.ifT hz.2 (Ev.step (fun k => rfl) ?_)))
        simp only [spec_WaterForLevel.j0]
        refine Ev.ifF (by rw [w64 (by omega) (by omega), decide_eq_false hc]; decide) ?_
        exact spec_tail (by omega) ok hd X.length 0 0 (by omega) (by omega) (by omega) (by omega) (by simp)
      · unfold impl_WaterForLevel.f impl_leastFloor.f impl_Ratio_isLess.f
        refine Ev.bind (implAskd_ev X n d) ?_
        try dsimp only
        rw [hq, if_pos h1, ← hmin, Int.mul_one]
        refine Ev.ifT rfl (Ev.now_ (Ev.now_ (Ev.step (fun k => rfl) ?_)))
        simp only [impl_WaterForLevel.j0]
        refine Ev.ifF (by rw [w64 (x := n) (by omega) (by omega), w64 (by omega) (by omega), decide_eq_false hc]; decide) ?_
        refine Ev.bind (g := fun k => impl_below.f k X n d) hS.1 ?_
        refine Ev.bind (waterOf_ev X (by omega) ok) ?_
        have h3 := Int.mul_nonneg hw.1 (show 0 ≤ d by omega)
        have h4 : wsum X * d ≤ 120000 * 1000 := Int.mul_le_mul (by omega) (by omega) (by omega) (by omega)
        rw [w64 (x := wsum X * d) (by omega) (by omega), w64 (x := bel n d X - wsum X * d) (by omega) (by omega)]
        exact Ev.bind (lowest_ev (by omega) (by omega) (by omega) (by omega)) (Ev.now _)
theorem FnExactWaterForLevel : ∀ (l0 : (List S66)) (a1_0 : Int) (a1_1 : Int), (l0.length ≤ maxLen ∧ ∀ y2 ∈ l0, ((Lit.int .i64 y2.f0).wf = true) ∧ ((Lit.int .i64 y2.f1).wf = true) ∧ ((Lit.int .i64 y2.f2).wf = true)) → ((Lit.int .i64 a1_0).wf = true) → ((Lit.int .i64 a1_1).wf = true) → ∃ k, laws_FnExactWaterForLevel.f k l0 a1_0 a1_1 = some true := by
  intro t n d ht hn hd
  refine Ev.rounds (?_ : Ev (fun k => laws_FnExactWaterForLevel.f k t n d) true)
  have b1 := ht.1
  simp only [maxLen] at b1
  unfold laws_FnExactWaterForLevel.f
  rw [szTankS_val t (by omega)]
  refine Ev.now_ ?_
  by_cases hn : (1048576 : Int) - (t.length : Int) < 0
  · rw [if_pos hn]
    exact Ev.ifT (by decide) (Ev.now _)
  rw [if_neg hn]
  refine Ev.ifF hn ?_
  have ht1 : t.length ≤ 1048576 := by omega
  have hT1 : (toT t).length ≤ 1048576 := by rw [toT_length]; exact ht1
  obtain ⟨⟨a, b, c⟩, hS, hI⟩ := both_ev (toT t) n d hT1
  have hr : laws_toRatio.f n d = some (n, d) := rfl
  rw [hr]
  refine Ev.bind (toTankS_ev t ht1) (Ev.now_ ?_)
  try dsimp only
  refine Ev.bind hS ?_
  try dsimp only
  refine Ev.bind (toTankS_ev t ht1) (Ev.now_ ?_)
  try dsimp only
  refine Ev.bind hI ?_
  try dsimp only
  unfold laws_eqRatio.f
  rw [if_pos rfl, if_pos rfl]
  refine Ev.now_ ?_
  refine Ev.ifT rfl ?_
  refine Ev.step (fun k => rfl) ?_
  refine Ev.ifF (by simp) ?_
  refine Ev.bind (toTankS_ev t ht1) ?_
  try dsimp only
  refine Ev.bind (eqTankS_ev (toT t) hT1) ?_
  exact Ev.ifT rfl (Ev.now _)

end Go.Proofs.Ytedkbaadbnpkoaa.Pure

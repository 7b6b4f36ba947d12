/- The pure statement of the law FnExactLeastTraffic: what its printed functions compute is true for every input. No conditions. -/
import Derived.Test.YtminippcikenfaaPFnExactLeastTrafficx5
import Derived.Test.YtminippcikenfaaPl
namespace Go.Proofs.Ytminippcikenfaa.Pure
open Go.RowKit Go.Proofs.Ytminippcikenfaa.PFnExactLeastTraffic Go.Proofs.YtminippcikenfaaW.PrintWords Go.Proofs.YtminippcikenfaaW.PrintLast Go.Proofs.Ytminippcikenfaa.Pl
set_option linter.unusedVariables false
set_option linter.unusedSimpArgs false

theorem within_val (x a b : Int) : impl_within.f x a b = some (decide (a ≤ x ∧ x ≤ b)) := by
  unfold impl_within.f
  by_cases h : a ≤ x <;> simp [h]
theorem in_val (x a b : Int) : spec_l1In.f x a b = some (decide (a ≤ x ∧ x ≤ b)) := within_val x a b
theorem toIntS_ev (l : List Int) (hl : l.length ≤ 1048576) : Ev (fun k => laws_toIntS.f k l) l := by
  refine Ev.congr (fun k => ?_) (copy_ev 0 (l0 := laws_toIntS.l0) (fun _ _ _ _ => rfl) l 0 (by omega))
  show laws_toIntS.f k l = _
  unfold laws_toIntS.f
  rw [if_pos (by omega), if_pos (by omega)]
theorem eqIntS_ev (l : List Int) (hl : l.length ≤ 1048576) : Ev (fun k => laws_eqIntS.f k l l) true := by
  refine Ev.congr (fun k => ?_) (same_ev (l0 := laws_eqIntS.l0) (fun k x i => by simp only [laws_eqIntS.l0, if_true]) l (by omega))
  show laws_eqIntS.f k l l = _
  unfold laws_eqIntS.f
  rw [if_pos rfl]
/-- all elements lie in some bounds -/
def allIn (l : List Int) (a b : Int) : Bool := l.all fun x => decide (a ≤ x ∧ x ≤ b)
theorem areWithin_val (l : List Int) (a b : Int) : impl_areWithin.f l a b = some (allIn l a b) := by
  unfold impl_areWithin.f allIn
  congr 1
  rw [List.any_eq_not_all_not, Bool.not_not]
  congr 1
  funext x
  simp
theorem l1All_ev (l : List Int) (a b : Int) (hl : l.length ≤ 1048576) : Ev (fun k => spec_l1All.f k l a b) (allIn l a b) := by
  refine all_ev (l0 := fun k x i => spec_l1All.l0 k a b x (x.length : Int) i) 0 (fun x => decide (a ≤ x ∧ x ≤ b)) (fun k x i h0 => ?_) l (by omega)
  show spec_l1All.l0 (k + 1) a b x (x.length : Int) i = _
  simp only [spec_l1All.l0, in_val, Option.bind_some]
  by_cases hi : i < (x.length : Int)
  · rw [if_pos hi, if_pos h0, if_pos hi, if_pos hi]
    rfl
  · rw [if_neg hi, if_neg hi]
theorem toBoolS_ev (l : List Bool) (hl : l.length ≤ 1048576) : Ev (fun k => laws_toBoolS.f k l) l := by
  refine Ev.congr (fun k => ?_) (copy_ev false (l0 := laws_toBoolS.l0) (fun _ _ _ _ => rfl) l false (by omega))
  show laws_toBoolS.f k l = _
  unfold laws_toBoolS.f
  rw [if_pos (by omega), if_pos (by omega)]
theorem eqBoolS_ev (l : List Bool) (hl : l.length ≤ 1048576) : Ev (fun k => laws_eqBoolS.f k l l) true := by
  refine Ev.congr (fun k => ?_) (same_ev (l0 := laws_eqBoolS.l0) (fun k x i => by simp only [laws_eqBoolS.l0, bne_self_eq_false, Bool.false_eq_true, if_false]) l (by omega))
  show laws_eqBoolS.f k l l = _
  unfold laws_eqBoolS.f
  rw [if_pos rfl]
theorem szFlight_val (l : List Int) (m : List Bool) (hl : l.length ≤ maxLen) (hm : m.length ≤ maxLen) :
    laws_szFlight.f l m 1048576 = some (if (l.length : Int) + m.length ≤ 1048576 then ((1048576 : Int) - (l.length : Int) - (m.length : Int)) else (-1 : Int)) := by
  simp only [maxLen] at hl hm
  unfold laws_szFlight.f laws_szIntS.f laws_szBoolS.f
  rw [w64 (x := 1048576 - (l.length : Int)) (by omega) (by omega)]
  by_cases h : (1048576 : Int) - l.length < 0
  · rw [if_pos h, Option.bind_some, if_pos (by omega), if_neg (by omega)]
  · rw [if_neg h, Option.bind_some, if_neg h, w64 (by omega) (by omega)]
    by_cases h2 : (1048576 : Int) - l.length - m.length < 0
    · rw [if_pos h2, Option.bind_some, if_pos (by omega), if_neg (by omega)]
    · rw [if_neg h2, Option.bind_some, if_neg h2, if_pos (by omega)]
theorem toFlight_ev (l : List Int) (m : List Bool) (hl : l.length ≤ 1048576) (hm : m.length ≤ 1048576) : Ev (fun k => laws_toFlight.f k l m) (l, m) := by
  unfold laws_toFlight.f
  refine Ev.bind (toIntS_ev l hl) ?_
  try dsimp only
  refine Ev.bind (toBoolS_ev m hm) ?_
  exact Ev.now _
theorem eqFlight_ev (l : List Int) (m : List Bool) (hl : l.length ≤ 1048576) (hm : m.length ≤ 1048576) : Ev (fun k => laws_eqFlight.f k l m l m) true := by
  unfold laws_eqFlight.f
  refine Ev.bind (eqIntS_ev l hl) ?_
  try dsimp only
  refine Ev.ifT rfl (Ev.bind (eqBoolS_ev m hm) ?_)
  try dsimp only
  exact Ev.ifT rfl (Ev.now _)
/-- a flight -/
def goodF (l : List Int) (m : List Bool) : Bool := decide (1 ≤ (l.length : Int) ∧ (l.length : Int) ≤ 6) && (decide ((m.length : Int) = l.length) && allIn l 1 20)
theorem isFlight_val (l : List Int) (m : List Bool) : impl_IsFlight.f l m = some (goodF l m) := by
  unfold impl_IsFlight.f goodF
  rw [within_val, Option.bind_some, areWithin_val, Option.bind_some]
  by_cases h1 : 1 ≤ (l.length : Int) ∧ (l.length : Int) ≤ 6
  · rw [decide_eq_true h1, if_pos rfl]
    by_cases h2 : (m.length : Int) = l.length
    · rw [if_pos h2, decide_eq_true h2]; rfl
    · rw [if_neg h2, decide_eq_false h2]; rfl
  · rw [decide_eq_false h1, if_neg (by decide)]; rfl
theorem loGood_ev (l : List Int) (m : List Bool) (hl : l.length ≤ 1048576) : Ev (fun k => spec_loGood.f k l m) (goodF l m) := by
  unfold spec_loGood.f goodF
  simp only [in_val, Option.bind_some]
  by_cases h1 : 1 ≤ (l.length : Int) ∧ (l.length : Int) ≤ 6
  · rw [decide_eq_true h1]
    refine Ev.ifT rfl ?_
    by_cases h2 : (m.length : Int) = l.length
    · rw [decide_eq_true h2]
      refine Ev.ifT h2 (Ev.bind (l1All_ev l 1 20 hl) ?_)
      exact Ev.now _
    · rw [decide_eq_false h2]
      exact Ev.ifF h2 (Ev.now _)
  · rw [decide_eq_false h1]
    exact Ev.ifF (by decide) (Ev.now _)
theorem goodF_le {l : List Int} {m : List Bool} (h : goodF l m = true) : 1 ≤ l.length ∧ l.length ≤ 6 ∧ m.length = l.length ∧ ∀ x ∈ l, 1 ≤ x ∧ x ≤ 20 := by
  unfold goodF allIn at h
  simp only [Bool.and_eq_true, decide_eq_true_eq, List.all_eq_true] at h
  exact ⟨by omega, by omega, by omega, h.2.2⟩
theorem w64b {n : Int} (h0 : -1000 ≤ n) (h1 : n ≤ 1000) : wrap64 n = n := by unfold wrap64; omega
theorem best_max (u d : Nat) (f : Bool) (h : u + d ≤ 20) : best mx u d f = (u : Int) + d - (if f = true ∧ 0 < d then 1 else 0) := by
  induction u, d, f using best.induct with
  | case1 f => rw [best]; simp
  | case2 u f ih =>
    have ih := ih (by omega)
    rw [best, ih, w64b (by simp; omega) (by simp; omega)]
    simp; omega
  | case3 d f ih =>
    have ih := ih (by omega)
    rw [best, ih]
    cases f <;> simp [fl] <;> rw [w64b (by omega) (by omega)] <;> omega
  | case4 u d f ih1 ih2 =>
    have ih1 := ih1 (by omega)
    have ih2 := ih2 (by omega)
    rw [best, ih1, ih2]
    cases f <;> simp [fl] <;> rw [w64b (by omega) (by omega), w64b (by omega) (by omega)] <;> unfold mx <;> split <;> omega
theorem best_min (u d : Nat) (f : Bool) (h : u + d ≤ 20) : best mn u d f = (u : Int) + (if (d : Int) - u - (if f = true then 1 else 0) < 0 then 0 else (d : Int) - u - (if f = true then 1 else 0)) := by
  induction u, d, f using best.induct with
  | case1 f => rw [best]; cases f <;> simp
  | case2 u f ih =>
    have ih := ih (by omega)
    rw [best, ih]
    cases f <;> simp <;> rw [w64b (by omega) (by omega)] <;> omega
  | case3 d f ih =>
    have ih := ih (by omega)
    rw [best, ih]
    cases f <;> simp [fl] <;> rw [w64b (by omega) (by omega)] <;> omega
  | case4 u d f ih1 ih2 =>
    have ih1 := ih1 (by omega)
    have ih2 := ih2 (by omega)
    rw [best, ih1, ih2]
    cases f <;> simp [fl] <;> rw [w64b (by omega) (by omega), w64b (by omega) (by omega)] <;> unfold mn <;> split <;> omega
theorem areShips_val (l : List Int) (m : List Bool) (a b : Int) : impl_areShips.f l m a b = some (goodF l m && (decide (0 ≤ a ∧ a ≤ 10) && decide (0 ≤ b ∧ b ≤ 10))) := by
  unfold impl_areShips.f
  rw [isFlight_val, Option.bind_some]
  cases goodF l m with
  | false => rw [if_neg (by decide)]; rfl
  | true =>
    rw [if_pos rfl, within_val, Option.bind_some, within_val]
    by_cases h : 0 ≤ a ∧ a ≤ 10
    · rw [decide_eq_true h, if_pos rfl]; rfl
    · rw [decide_eq_false h, if_neg (by decide)]; rfl
theorem loNumbers_ev (l : List Int) (m : List Bool) (a b : Int) (hl : l.length ≤ 1048576) : Ev (fun k => spec_loNumbers.f k l m a b) (goodF l m && (decide (0 ≤ a ∧ a ≤ 10) && decide (0 ≤ b ∧ b ≤ 10))) := by
  unfold spec_loNumbers.f
  refine Ev.bind (loGood_ev l m hl) ?_
  try dsimp only
  cases goodF l m with
  | false => exact Ev.ifF (by decide) (Ev.now _)
  | true =>
    refine Ev.ifT rfl ?_
    simp only [in_val, Option.bind_some]
    by_cases h : 0 ≤ a ∧ a ≤ 10
    · rw [decide_eq_true h]; exact Ev.ifT rfl (Ev.now _)
    · rw [decide_eq_false h]; exact Ev.ifF (by decide) (Ev.now _)
theorem ships_le {l : List Int} {m : List Bool} {a b : Int} (h : (goodF l m && (decide (0 ≤ a ∧ a ≤ 10) && decide (0 ≤ b ∧ b ≤ 10))) = true) : (m.length = l.length ∧ 1 ≤ l.length ∧ l.length ≤ 6) ∧ 0 ≤ a ∧ a ≤ 10 ∧ 0 ≤ b ∧ b ≤ 10 := by
  simp only [Bool.and_eq_true, decide_eq_true_eq] at h
  have := goodF_le h.1
  omega
theorem loTable_val (f : Bool) (u d : Nat) (h : u + d ≤ 20) : spec_loTable.f f (u : Int) (d : Int) = some ((u : Int) + (if (d : Int) - u - (if f = true then 1 else 0) < 0 then 0 else (d : Int) - u - (if f = true then 1 else 0))) := by
  unfold spec_loTable.f spec_l1Most.f
  cases f with
  | true =>
    rw [if_pos rfl, w64b (n := (u : Int) + 1) (by omega) (by omega), w64b (n := (d : Int) - ((u : Int) + 1)) (by omega) (by omega)]
    by_cases c : (0 : Int) > (d : Int) - ((u : Int) + 1)
    · rw [if_pos c, Option.bind_some, w64b (by omega) (by omega), if_pos (by simp; omega)]
    · rw [if_neg c, Option.bind_some, w64b (by omega) (by omega), if_neg (by simp; omega)]
      simp; omega
  | false =>
    rw [if_neg (by decide), w64b (n := (d : Int) - u) (by omega) (by omega)]
    by_cases c : (0 : Int) > (d : Int) - u
    · rw [if_pos c, Option.bind_some, w64b (by omega) (by omega), if_pos (by simp; omega)]
    · rw [if_neg c, Option.bind_some, w64b (by omega) (by omega), if_neg (by simp; omega)]
      simp
theorem table_best (f : Bool) (u d : Nat) (h : u + d ≤ 20) : spec_loTable.f f (u : Int) (d : Int) = some (best mn u d f) := by rw [loTable_val f u d h, best_min u d f h]
theorem best_lo (u d : Nat) (f : Bool) (h : u + d ≤ 20) : 0 ≤ best mn u d f ∧ best mn u d f ≤ 40 := by
  rw [best_min u d f h]
  cases f with
  | true => simp only [if_true]; split <;> omega
  | false => simp only [Bool.false_eq_true, if_false]; split <;> omega
theorem loTop_val (f : Bool) : spec_loTop.f f false = some (false, fl f) := by cases f <;> rfl
theorem loTop_up (f : Bool) : spec_loTop.f f true = some (true, 1) := by cases f <;> rfl
theorem str_cons (c : Int) (l : List Int) (o : ByteArray) (b : UInt8) (hb : UInt8.ofNat c.toNat = b) : (o ++ (⟨#[b]⟩ : ByteArray)) ++ strOfNums l = o ++ strOfNums (c :: l) := by
  rw [ByteArray.append_assoc]
  congr 1
  apply ByteArray.ext
  rw [ByteArray.data_append]
  apply Array.ext'
  simp [strOfNums, hb]
theorem str_nil (o : ByteArray) : o ++ strOfNums [] = o := by
  apply ByteArray.ext
  rw [ByteArray.data_append]
  simp [strOfNums]
theorem lt_scan : ∀ (m u d k : Nat) (f : Bool) (o : ByteArray), u + d = m → u ≤ 10 → d ≤ 10 → m + 1 ≤ k → o.size + m ≤ 1000 → spec_LeastTraffic.l0 k (u : Int) (d : Int) f o (best mn u d f) = some (o ++ strOfNums (ltS m u d f), true)
  | _, _, _, 0, _, _, _, _, _, hk, _ => absurd hk (by omega)
  | 0, u, d, k + 1, f, o, hm, hu, hd, hk, ho => by
    unfold spec_LeastTraffic.l0
    rw [if_neg (by rw [w64b (by omega) (by omega)]; omega)]
    show _ = some (o ++ strOfNums [], true)
    rw [str_nil]
  | m + 1, u, d, k + 1, f, o, hm, hu, hd, hk, ho => by
    have hs : o.size + 1 ≤ 9223372036854775807 := by omega
    have sz : ∀ b : UInt8, (o ++ (⟨#[b]⟩ : ByteArray)).size = o.size + 1 := fun b => by rw [ByteArray.size_append]; rfl
    unfold spec_LeastTraffic.l0
    rw [if_pos (by rw [w64b (by omega) (by omega)]; omega)]
    have up : ∀ u' : Nat, u = u' + 1 → best mn u d f = 1 + best mn u' d true → ((spec_loTop.f f true).bind fun bt151 => (if o.size + 1 ≤ 9223372036854775807 then (spec_LeastTraffic.l0 k (wrap64 ((u : Int) - 1)) (d : Int) bt151.1 (o ++ (⟨#[117]⟩ : ByteArray)) (wrap64 (best mn u d f - bt151.2))) else none)) = some (o ++ strOfNums (117 :: ltS m u' d true), true) := fun u' hu' hb => by
      rw [loTop_up, Option.bind_some]
      dsimp only
      have hb2 := best_lo u' d true (by omega)
      rw [if_pos hs, hb, w64b (n := (u : Int) - 1) (by omega) (by omega), w64b (n := 1 + best mn u' d true - 1) (by omega) (by omega), show (u : Int) - 1 = (u' : Int) by omega, show 1 + best mn u' d true - 1 = best mn u' d true by omega, lt_scan m u' d k true _ (by omega) (by omega) hd (by omega) (by rw [sz]; omega), str_cons 117 _ o 117 rfl]
    by_cases hd0 : 0 < d
    · obtain ⟨d', rfl⟩ : ∃ d', d = d' + 1 := ⟨d - 1, by omega⟩
      rw [if_pos (by omega), loTop_val, Option.bind_some]
      dsimp only
      rw [w64b (n := ((d' + 1 : Nat) : Int) - 1) (by omega) (by omega), show ((d' + 1 : Nat) : Int) - 1 = (d' : Int) by omega, table_best false u d' (by omega), Option.bind_some]
      have hlo := best_lo u d' false (by omega)
      have hfl : 0 ≤ fl f ∧ fl f ≤ 1 := by cases f <;> simp [fl]
      by_cases hE : wrap64 (fl f + best mn u d' false) = best mn u (d' + 1) f
      · rw [if_pos hE, if_pos hs]
        have e1 : ltS (m + 1) u (d' + 1) f = 100 :: ltS m u d' false := by
          show (if 0 < d' + 1 ∧ _ then _ else _) = _
          exact if_pos ⟨by omega, hE⟩
        have hE' : best mn u (d' + 1) f = fl f + best mn u d' false := by rw [← hE, w64b (by omega) (by omega)]
        rw [e1, hE', w64b (n := fl f + best mn u d' false - fl f) (by omega) (by omega), show fl f + best mn u d' false - fl f = best mn u d' false by omega, lt_scan m u d' k false _ (by omega) hu (by omega) (by omega) (by rw [sz]; omega), str_cons 100 _ o 100 rfl]
      · rw [if_neg hE]
        have hu0 : 0 < u := by
          rcases Nat.eq_zero_or_pos u with h | h
          · subst h
            exact absurd (by rw [best]) hE
          · exact h
        obtain ⟨u', rfl⟩ : ∃ u', u = u' + 1 := ⟨u - 1, by omega⟩
        have e1 : ltS (m + 1) (u' + 1) (d' + 1) f = 117 :: ltS m u' (d' + 1) true := by
          show (if 0 < d' + 1 ∧ _ then _ else _) = _
          exact if_neg (fun h => hE h.2)
        rw [e1]
        refine up u' rfl ?_
        have hb2 := best_lo u' (d' + 1) true (by omega)
        have eb : best mn (u' + 1) (d' + 1) f = mn (wrap64 (1 + best mn u' (d' + 1) true)) (wrap64 (fl f + best mn (u' + 1) d' false)) := by rw [best]
        rw [eb] at hE ⊢
        rw [w64b (n := 1 + best mn u' (d' + 1) true) (by omega) (by omega)] at hE ⊢
        unfold mn at hE ⊢
        split at hE
        · exact absurd rfl hE
        · rename_i h2; rw [if_neg h2]
    · obtain rfl : d = 0 := by omega
      rw [if_neg (by omega)]
      obtain ⟨u', rfl⟩ : ∃ u', u = u' + 1 := ⟨u - 1, by omega⟩
      have e1 : ltS (m + 1) (u' + 1) 0 f = 117 :: ltS m u' 0 true := by
        show (if 0 < 0 ∧ _ then _ else _) = _
        exact if_neg (fun h => absurd h.1 (by omega))
      rw [e1]
      refine up u' rfl ?_
      have hb2 := best_lo u' 0 true (by omega)
      rw [best, w64b (by omega) (by omega)]
def okA (s : List Int) (h : List Bool) (a b : Int) : Bool := goodF s h && (decide (0 ≤ a ∧ a ≤ 10) && decide (0 ≤ b ∧ b ≤ 10))
def answer (s : List Int) (h : List Bool) (a b : Int) : ByteArray × Bool := if okA s h a b = true then (strOfNums (ltS (a.toNat + b.toNat) a.toNat b.toNat (rdOf false h ((h.length : Int) - 1))), true) else ((⟨#[]⟩ : ByteArray), false)
theorem answer_yes {s : List Int} {h : List Bool} {a b : Int} (ho : okA s h a b = true) : answer s h a b = (strOfNums (ltS (a.toNat + b.toNat) a.toNat b.toNat (rdOf false h ((h.length : Int) - 1))), true) := if_pos ho
theorem answer_no {s : List Int} {h : List Bool} {a b : Int} (ho : ¬ okA s h a b = true) : answer s h a b = ((⟨#[]⟩ : ByteArray), false) := if_neg ho
theorem impl_ev (s : List Int) (h : List Bool) (a b : Int) : Ev (fun k => impl_LeastTraffic.f s h a b) (answer s h a b) := by
  unfold impl_LeastTraffic.f
  rw [areShips_val]
  refine Ev.now_ ?_
  by_cases ho : okA s h a b = true
  · have hv := ships_le ho
    rw [answer_yes ho]
    exact Ev.ifT ho (Ev.ifT ⟨⟨by omega, by omega, by omega⟩, by omega, by omega, by omega, by omega⟩ (Ev.now _))
  · rw [answer_no ho]
    exact Ev.ifF ho (Ev.now _)
theorem spec_ev (s : List Int) (h : List Bool) (a b : Int) (hs : s.length ≤ 1048576) : Ev (fun k => spec_LeastTraffic.f k s h a b) (answer s h a b) := by
  unfold spec_LeastTraffic.f
  refine Ev.bind (loNumbers_ev s h a b hs) ?_
  try dsimp only
  by_cases ho : okA s h a b = true
  · have hv := ships_le ho
    obtain ⟨u, rfl⟩ : ∃ u : Nat, a = u := ⟨a.toNat, by omega⟩
    obtain ⟨d, rfl⟩ : ∃ d : Nat, b = d := ⟨b.toNat, by omega⟩
    rw [answer_yes ho]
    refine Ev.ifT ho ?_
    rw [show wrap64 ((s.length : Int) - 1) = (h.length : Int) - 1 by unfold wrap64; omega, Int.toNat_natCast, Int.toNat_natCast]
    refine Ev.ifT (by omega) (Ev.ifT (by omega) ?_)
    refine Ev.bind (Ev.one (fun _ => table_best _ u d (by omega))) ?_
    try dsimp only
    refine Ev.at_ (K := u + d + 1) (fun k hk => ?_)
    rw [lt_scan (u + d) u d k _ _ rfl (by omega) (by omega) hk (by show 0 + (u + d) ≤ 1000; omega)]
    rw [show (⟨#[]⟩ : ByteArray) ++ strOfNums (ltS (u + d) u d (rdOf false h ((h.length : Int) - 1))) = strOfNums (ltS (u + d) u d (rdOf false h ((h.length : Int) - 1))) by
      apply ByteArray.ext
      rw [ByteArray.data_append]
      simp]
  · rw [answer_no ho]
    exact Ev.ifF ho (Ev.now _)
theorem FnExactLeastTraffic : ∀ (l0_0 : (List Int)) (l0_1 : (List Bool)) (a1 : Int) (a2 : Int), (l0_0.length ≤ maxLen ∧ ∀ y4 ∈ l0_0, (Lit.int .i64 y4).wf = true) → (l0_1.length ≤ maxLen ∧ ∀ y4 ∈ l0_1, True) → ((Lit.int .i64 a1).wf = true) → ((Lit.int .i64 a2).wf = true) → ∃ k, laws_FnExactLeastTraffic.f k l0_0 l0_1 a1 a2 = some true := by
  intro s h a b hs hh ha hb
  refine Ev.rounds (?_ : Ev (fun k => laws_FnExactLeastTraffic.f k s h a b) true)
  unfold laws_FnExactLeastTraffic.f
  rw [szFlight_val s h hs.1 hh.1]
  by_cases hl : (s.length : Int) + (h.length : Int) ≤ 1048576
  · have hS := spec_ev s h a b (by omega)
    have hI := impl_ev s h a b
    generalize answer s h a b = r at hS hI
    obtain ⟨u, t⟩ := r
    rw [if_pos hl]
    simp only [Option.bind_some]
    refine Ev.ifF (by omega) ?_
    refine Ev.bind (toFlight_ev s h (by omega) (by omega)) ?_
    try dsimp only
    refine Ev.bind hS ?_
    try dsimp only
    refine Ev.bind (toFlight_ev s h (by omega) (by omega)) ?_
    try dsimp only
    refine Ev.bind hI ?_
    try dsimp only
    refine Ev.ifT rfl (Ev.step (fun k => rfl) ?_)
    refine Ev.ifF (by simp) ?_
    refine Ev.bind (toFlight_ev s h (by omega) (by omega)) ?_
    try dsimp only
    refine Ev.bind (eqFlight_ev s h (by omega) (by omega)) ?_
    try dsimp only
    exact Ev.ifT rfl (Ev.now _)
  · rw [if_neg hl]
    simp only [Option.bind_some]
    exact Ev.ifT (by decide) (Ev.now _)

end Go.Proofs.Ytminippcikenfaa.Pure

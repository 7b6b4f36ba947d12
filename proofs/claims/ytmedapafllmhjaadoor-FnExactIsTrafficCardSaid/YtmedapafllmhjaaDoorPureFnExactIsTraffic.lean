/- The pure statement of the law FnExactIsTraffic: what its printed functions compute is true for every input. No conditions. -/
import Derived.Test.YtmedapafllmhjaaDoorPFnExactIsTrafficx1
import Derived.Test.YtmedapafllmhjaaDoorPl
namespace Go.Proofs.YtmedapafllmhjaaDoor.Pure
open Go.RowKit Go.Proofs.YtmedapafllmhjaaDoor.PFnExactIsTraffic Go.Proofs.YtmedapafllmhjaaDoorW.PrintWords Go.Proofs.YtmedapafllmhjaaDoorW.PrintLast Go.Proofs.YtmedapafllmhjaaDoor.Pl
set_option linter.unusedVariables false
set_option linter.unusedSimpArgs false

theorem dw_nil (p : UInt8 → Bool) : ∀ m : List UInt8, m.dropWhile p = [] ↔ m.all p = true
  | [] => by simp
  | a :: t => by
    cases h : p a with
    | true => rw [List.dropWhile_cons_of_pos h, dw_nil p t, List.all_cons, h, Bool.true_and]
    | false => rw [List.dropWhile_cons_of_neg (by simp [h]), List.all_cons, h]; simp
theorem dw_all (p : UInt8 → Bool) (m : List UInt8) (h : (m.dropWhile p).all p = true) : m.all p = true := by
  induction m with
  | nil => rfl
  | cons a t ih =>
    cases ha : p a with
    | true => rw [List.dropWhile_cons_of_pos ha] at h; rw [List.all_cons, ha, ih h]; rfl
    | false => rw [List.dropWhile_cons_of_neg (by simp [ha])] at h; exact h
theorem trim_empty (l : List UInt8) : (Lib.trimS l [117, 100]).isEmpty = l.all (fun x => x == 117 || x == 100) := by
  have hp : (fun x : UInt8 => x == 117 || x == 100) = (fun x => ([117, 100] : List UInt8).contains x) := by
    funext x
    simp [List.contains, List.elem]
    cases h1 : (x == 117) <;> cases h2 : (x == 100) <;> simp_all
  rw [hp]
  generalize ([117, 100] : List UInt8) = cs
  apply Bool.eq_iff_iff.mpr
  rw [List.isEmpty_iff]
  unfold Lib.trimS Lib.trimLeftS Lib.trimRightS
  rw [dw_nil, List.all_reverse]
  constructor
  · intro h
    have := dw_all _ _ h
    rwa [List.all_reverse] at this
  · intro h
    have e : l.reverse.dropWhile (fun x => cs.contains x) = [] := (dw_nil _ _).mpr (by rwa [List.all_reverse])
    rw [e]; rfl
theorem bt_ud (s : ByteArray) (i : Nat) (h : i < s.size) (c : UInt8) : (bt s (i : Int) = (c.toNat : Int)) ↔ s.data.toList[i]? = some c := by
  have e : bt s (i : Int) = ((s[i]'h).toNat : Int) := (bt_at s (i : Int) (by simpa using h)).symm.trans (by simp)
  have g : s.data.toList[i]? = some (s[i]'h) := by
    rw [Array.getElem?_toList]
    exact Array.getElem?_eq_getElem h
  rw [e, g]
  constructor
  · intro x
    have := UInt8.toNat_inj.mp (Int.natCast_inj.mp x)
    rw [this]
  · intro x
    rw [Option.some.inj x]
theorem loTraffic_scan (s : ByteArray) (hs : s.size ≤ 40) : ∀ (m i : Nat), i + m = s.size → spec_loTraffic.l0 (m + 1) s (i : Int) = some ((s.data.toList.drop i).all (fun x => x == 117 || x == 100))
  | 0, i, h => by
    have hn : s.data.toList.length = s.size := rfl
    unfold spec_loTraffic.l0
    rw [if_neg (by omega), List.drop_eq_nil_of_le (by omega)]
    rfl
  | m + 1, i, h => by
    have hn : s.data.toList.length = s.size := rfl
    have hi : i < s.size := by omega
    have w : wrap64 ((i : Int) + 1) = ((i + 1 : Nat) : Int) := by rw [show wrap64 ((i : Int) + 1) = (i : Int) + 1 by unfold wrap64; omega]; push_cast; rfl
    have ih := loTraffic_scan s hs m (i + 1) (by omega)
    rw [List.drop_eq_getElem_cons (by omega), List.all_cons]
    have gi : s.data.toList[i]? = some (s.data.toList[i]'(by omega)) := List.getElem?_eq_getElem _
    have b1 : bt s (i : Int) = 117 ↔ _ := bt_ud s i hi 117
    have b2 : bt s (i : Int) = 100 ↔ _ := bt_ud s i hi 100
    generalize s.data.toList[i]'(by omega) = x at gi ⊢
    rw [gi] at b1 b2
    simp only [Option.some.injEq] at b1 b2
    unfold spec_loTraffic.l0
    rw [if_pos (by omega), if_pos (by omega), w, ih]
    by_cases h1 : x = 117
    · rw [if_pos (b1.mpr h1), h1]; rfl
    · rw [if_neg (fun e => h1 (b1.mp e))]
      by_cases h2 : x = 100
      · rw [if_pos (b2.mpr h2), h2]; rfl
      · rw [if_neg (fun e => h2 (b2.mp e))]
        have e1 : (x == 117) = false := by simpa using h1
        have e2 : (x == 100) = false := by simpa using h2
        rw [e1, e2]; rfl
theorem FnExactIsTraffic : ∀ (a0 : ByteArray), (a0.size ≤ 140737488351232) → ∃ k, laws_FnExactIsTraffic.f k a0 = some true := by
  intro s hs
  refine ⟨s.size + 1, ?_⟩
  unfold laws_FnExactIsTraffic.f
  by_cases hb : (s.size : Int) > 1048576
  · rw [if_pos hb]
  rw [if_neg hb]
  have e1 : impl_IsTraffic.f s = some (trafficB s) := if_pos hs
  have e2 : spec_IsTraffic.f (s.size + 1) s = some (trafficB s) := by
    unfold spec_IsTraffic.f spec_loTraffic.f trafficB
    rw [trim_empty]
    by_cases h : (s.size : Int) > 40
    · rw [if_pos h, decide_eq_false (by omega)]; rfl
    · rw [if_neg h, decide_eq_true (by omega)]
      have := loTraffic_scan s (by omega) s.size 0 (by omega)
      rw [show ((0 : Nat) : Int) = 0 from rfl] at this
      rw [this]; rfl
  rw [e1, e2]
  show (if (trafficB s != trafficB s) = true then some false else some true) = some true
  rw [if_neg (by simp)]

end Go.Proofs.YtmedapafllmhjaaDoor.Pure

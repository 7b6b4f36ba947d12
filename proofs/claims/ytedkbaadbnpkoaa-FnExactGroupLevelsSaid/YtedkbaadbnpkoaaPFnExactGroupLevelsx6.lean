/- Lean functions of the Go functions that the law FnExactGroupLevels reaches, and the proofs that the calls come to what they say (made by program). -/
import Derived.Test.YtedkbaadbnpkoaaAb
import Derived.Test.YtedkbaadbnpkoaaPFnExactGroupLevelsx0
import Derived.Test.YtedkbaadbnpkoaaPFnExactGroupLevelsx5
namespace Go.Proofs.Ytedkbaadbnpkoaa.PFnExactGroupLevels
open Go.RowKit Go.Proofs.YtedkbaadbnpkoaaW.PrintWords Go.Proofs.YtedkbaadbnpkoaaW.PrintLast Go.Proofs.YtedkbaadbnpkoaaW.PrintMore Go.Proofs.Ytedkbaadbnpkoaa.Ab
attribute [local go_sem] max2_int min2_int max_two min_two max_three min_three max_four min_four   -- for this text's walks alone
set_option linter.unusedVariables false
set_option linter.unusedSimpArgs false

/-! ### spec_leJoins: function 65 -/
def spec_leJoins.l0 : Nat → Int → List (List Int) → Int → Int → Option (Bool)
  | 0, _, _, _, _ => none
  | k + 1, x0, x10, x11, x12 => if x12 < x11 then (if 0 ≤ x12 then (if x12 < (x10.length : Int) then (if ((rd_L4 x10 x12).length : Int) = 2 then ((spec_l1All.f k (rd_L4 x10 x12) 0 (wrap64 (x0 - 1))).bind fun t226 => (if t226 = true then (if 0 < ((rd_L4 x10 x12).length : Int) then (if 1 < ((rd_L4 x10 x12).length : Int) then (if (rd (rd_L4 x10 x12) 0) = (rd (rd_L4 x10 x12) 1) then (some false) else (spec_leJoins.l0 k x0 x10 x11 (wrap64 (x12 + 1)))) else (none)) else (none)) else (some false))) else (some false)) else (none)) else (none)) else (some true)
def spec_leJoins.f (k : Nat) (a0 : Int) (l1 : List (List Int)) : Option (Bool) := if (l1.length : Int) > 15 then (some false) else (spec_leJoins.l0 k a0 l1 (l1.length : Int) 0)
set_option maxHeartbeats 8000000 in
set_option maxRecDepth 100000 in
theorem spec_leJoins.calls (k : Nat) (a0 : Int) (A1 : Option Addr) (c1 : Nat) (l1 : List (List Int)) (r : Bool) (w : World) (hr1 : Kd.C (Kd.slice 3 (Kd.int .i64)) w A1 l1.length l1) (hc1 : l1.length ≤ c1) (h : spec_leJoins.f k a0 l1 = some r) :
  Calls Try.prog 65 #[.int .i64 a0, .slice A1 l1.length c1] w fun e w' => e = .returned (.bool r) ∧ Drawn0 w w' := by
 have HR1 := Aside0.mk hr1
 have HC1 := Aside0.mk hc1
 clear hr1 hc1
 have H : (if (l1.length : Int) > 15 then (some false) else (spec_leJoins.l0 k a0 l1 (l1.length : Int) 0)) = some r := h
 clear h
 by_cases c3 : (l1.length : Int) > 15
 ·rw [if_pos c3] at H
  have c3b0 : decide (15 < (l1.length : Int)) = true := decide_eq_true c3
  have c3b1 : decide (15 < l1.length) = true := decide_eq_true (by omega)
  clear c3
  obtain rfl := Option.some.inj H
  go_enter Try.func65, Try.ntmps65
  go_wp2
  repeat (go_quiet (fail); try go_wp2)
  go_ret
  exact ⟨by first | rfl | (simp; done) | (simp [*]; done), by repeat (first | exact Drawn0.refl _ | apply Drawn0.step)⟩
 ·rw [if_neg c3] at H
  have c3b0 : decide (15 < (l1.length : Int)) = false := decide_eq_false c3
  have c3b1 : decide (15 < l1.length) = false := decide_eq_false (by omega)
  clear c3
  have H' := Aside0.mk H
  clear H
  go_enter Try.func65, Try.ntmps65
  go_wp2
  repeat (go_quiet (fail); try go_wp2)
  go_loopg [12] k (fun kq v12 w' => ∃ (x12_1 : Int), v12 = .int .i64 x12_1 ∧ Aside0 (spec_leJoins.l0 kq a0 l1 (l1.length : Int) x12_1 = some r) ∧ Aside0 (kq ≤ k) ∧ Drawn0 w w')
  case atStart => exact ⟨(0), (by first | rfl | (simp; done) | (simp [*]; done)), H', ⟨Nat.le_refl _⟩, by repeat (first | exact Drawn0.refl _ | apply Drawn0.step)⟩
  case round =>
   clear H'
   try clear c1
   try clear p2
   try clear c3
   try clear c3b0
   try clear c3b1
   obtain ⟨x12_1, rfl, HA, HK1, ⟨m1, rfl⟩⟩ := hrel
   cases gk with
   | zero => exact absurd HA.out (by simp [spec_leJoins.l0])
   | succ k1 =>
    have H := HA.out
    clear HA
    simp only [spec_leJoins.l0] at H
    by_cases c4 : x12_1 < (l1.length : Int)
    ·rw [if_pos c4] at H
     have c4b0 : decide (x12_1 < (l1.length : Int)) = true := decide_eq_true c4
     clear c4
     by_cases c5 : 0 ≤ x12_1
     ·rw [if_pos c5] at H
      have c5b0 : decide (0 ≤ x12_1) = true := decide_eq_true c5
      clear c5
      by_cases c6 : x12_1 < (l1.length : Int)
      ·rw [if_pos c6] at H
       have c6b0 : decide (x12_1 < (l1.length : Int)) = true := decide_eq_true c6
       clear c6
       by_cases c7 : ((rd_L4 l1 x12_1).length : Int) = 2
       ·rw [if_pos c7] at H
        have c7b0 : (((rd_L4 l1 x12_1).length : Int) == 2) = true := beq_iff_eq.mpr c7
        have c7b1 : (((rd_L4 l1 x12_1).length : Int) != 2) = false := bne_eq_false_iff_eq.mpr c7
        clear c7
        replace H := Option.bind_eq_some_iff.mp H
        obtain ⟨t226, A80, H⟩ := H
        replace H : (if t226 = true then (if 0 < ((rd_L4 l1 x12_1).length : Int) then (if 1 < ((rd_L4 l1 x12_1).length : Int) then (if (rd (rd_L4 l1 x12_1) 0) = (rd (rd_L4 l1 x12_1) 1) then (some false) else (spec_leJoins.l0 k1 a0 l1 (l1.length : Int) (wrap64 (x12_1 + 1)))) else (none)) else (none)) else (some false)) = some r := H
        have A8 := Aside0.mk A80
        clear A80
        by_cases c9 : t226 = true
        ·subst c9
         have H1 : (if 0 < ((rd_L4 l1 x12_1).length : Int) then (if 1 < ((rd_L4 l1 x12_1).length : Int) then (if (rd (rd_L4 l1 x12_1) 0) = (rd (rd_L4 l1 x12_1) 1) then (some false) else (spec_leJoins.l0 k1 a0 l1 (l1.length : Int) (wrap64 (x12_1 + 1)))) else (none)) else (none)) = some r := by rw [if_pos rfl] at H; exact H
         clear H
         have H := H1
         clear H1
         by_cases c10 : 0 < ((rd_L4 l1 x12_1).length : Int)
         ·rw [if_pos c10] at H
          have c10b0 : decide (0 < ((rd_L4 l1 x12_1).length : Int)) = true := decide_eq_true c10
          have c10b1 : decide (0 < (rd_L4 l1 x12_1).length) = true := decide_eq_true (by omega)
          clear c10
          by_cases c11 : 1 < ((rd_L4 l1 x12_1).length : Int)
          ·rw [if_pos c11] at H
           have c11b0 : decide (1 < ((rd_L4 l1 x12_1).length : Int)) = true := decide_eq_true c11
           have c11b1 : decide (1 < (rd_L4 l1 x12_1).length) = true := decide_eq_true (by omega)
           clear c11
           by_cases c12 : (rd (rd_L4 l1 x12_1) 0) = (rd (rd_L4 l1 x12_1) 1)
           ·rw [if_pos c12] at H
            have c12b0 : ((rd (rd_L4 l1 x12_1) 0) == (rd (rd_L4 l1 x12_1) 1)) = true := beq_iff_eq.mpr c12
            have c12b1 : ((rd (rd_L4 l1 x12_1) 0) != (rd (rd_L4 l1 x12_1) 1)) = false := bne_eq_false_iff_eq.mpr c12
            clear c12
            obtain rfl := Option.some.inj H
            have p225 : 0 ≤ (x12_1 : Int) := of_decide_eq_true (by first | (with_reducible assumption) | assumption)
            have q225 : x12_1 < (l1.length : Int) := of_decide_eq_true (by first | (with_reducible assumption) | assumption)
            obtain ⟨ad225, A225_0, c225_0, e225, hx225_0, hl225_0, hi225_0⟩ := at_L4 HR1.out x12_1 p225 q225
            cases e225
            have HR225_0 := Aside0.mk hi225_0
            have HC225_0 := Aside0.mk hl225_0
            clear hi225_0 hl225_0
            replace p225 := eq_true p225
            replace q225 := eq_true q225
            go_wp2_with (first | (go_at_call 93; (try simp only [i64_w, i32_w]); (with_reducible refine (spec_l1All.calls k1 _ _ (rd_L4 l1 x12_1) 0 (wrap64 (a0 - 1)) true _ ?side1 ?side2 A8.out).mono ?_); (case side1 => exact xd (HR225_0.out)); (case side2 => exact HC225_0.out); rintro e w' ⟨rfl, ⟨nd, rfl⟩⟩; (try first | exact ⟨rfl, _, World.drewN_drewN _ _ _⟩ | exact ⟨rfl, _, Eq.trans (World.drewN_drewN _ _ _) (congrArg (World.drewN _) (Nat.add_assoc _ _ _))⟩); have p227 : 0 ≤ (0 : Int) := (by omega); have q227 : 0 < ((rd_L4 l1 x12_1).length : Int) := of_decide_eq_true (by first | (with_reducible assumption) | assumption); obtain ⟨ad227, e227, hx227_0⟩ := Kd.at_int HR225_0.out 0 p227 q227; cases e227; have qi227 : (0 < (rd_L4 l1 x12_1).length) = True := eq_true (by omega); (try rw [show ((0 : Int)).toNat = 0 from rfl] at hx227_0); (try rw [Addr.add_zero'] at hx227_0); replace p227 := eq_true p227; replace q227 := eq_true q227; have p228 : 0 ≤ (1 : Int) := (by omega); have q228 : 1 < ((rd_L4 l1 x12_1).length : Int) := of_decide_eq_true (by first | (with_reducible assumption) | assumption); obtain ⟨ad228, e228, hx228_0⟩ := Kd.at_int HR225_0.out 1 p228 q228; obtain rfl : ad227 = ad228 := (by injection e228); (try simp only [show (1 : Int).toNat = 1 from rfl, Nat.reduceMul, Nat.reduceEqDiff, Go.Addr.add, ↓reduceIte] at hx228_0); have qi228 : (1 < (rd_L4 l1 x12_1).length) = True := eq_true (by omega); (try rw [show ((1 : Int)).toNat = 1 from rfl] at hx228_0); replace p228 := eq_true p228; replace q228 := eq_true q228))
            repeat (go_quiet (first | (go_at_call 93; (try simp only [i64_w, i32_w]); (with_reducible refine (spec_l1All.calls k1 _ _ (rd_L4 l1 x12_1) 0 (wrap64 (a0 - 1)) true _ ?side1 ?side2 A8.out).mono ?_); (case side1 => exact xd (HR225_0.out)); (case side2 => exact HC225_0.out); rintro e w' ⟨rfl, ⟨nd, rfl⟩⟩; (try first | exact ⟨rfl, _, World.drewN_drewN _ _ _⟩ | exact ⟨rfl, _, Eq.trans (World.drewN_drewN _ _ _) (congrArg (World.drewN _) (Nat.add_assoc _ _ _))⟩); have p227 : 0 ≤ (0 : Int) := (by omega); have q227 : 0 < ((rd_L4 l1 x12_1).length : Int) := of_decide_eq_true (by first | (with_reducible assumption) | assumption); obtain ⟨ad227, e227, hx227_0⟩ := Kd.at_int HR225_0.out 0 p227 q227; cases e227; have qi227 : (0 < (rd_L4 l1 x12_1).length) = True := eq_true (by omega); (try rw [show ((0 : Int)).toNat = 0 from rfl] at hx227_0); (try rw [Addr.add_zero'] at hx227_0); replace p227 := eq_true p227; replace q227 := eq_true q227; have p228 : 0 ≤ (1 : Int) := (by omega); have q228 : 1 < ((rd_L4 l1 x12_1).length : Int) := of_decide_eq_true (by first | (with_reducible assumption) | assumption); obtain ⟨ad228, e228, hx228_0⟩ := Kd.at_int HR225_0.out 1 p228 q228; obtain rfl : ad227 = ad228 := (by injection e228); (try simp only [show (1 : Int).toNat = 1 from rfl, Nat.reduceMul, Nat.reduceEqDiff, Go.Addr.add, ↓reduceIte] at hx228_0); have qi228 : (1 < (rd_L4 l1 x12_1).length) = True := eq_true (by omega); (try rw [show ((1 : Int)).toNat = 1 from rfl] at hx228_0); replace p228 := eq_true p228; replace q228 := eq_true q228)); try go_wp2_with (first | (go_at_call 93; (try simp only [i64_w, i32_w]); (with_reducible refine (spec_l1All.calls k1 _ _ (rd_L4 l1 x12_1) 0 (wrap64 (a0 - 1)) true _ ?side1 ?side2 A8.out).mono ?_); (case side1 => exact xd (HR225_0.out)); (case side2 => exact HC225_0.out); rintro e w' ⟨rfl, ⟨nd, rfl⟩⟩; (try first | exact ⟨rfl, _, World.drewN_drewN _ _ _⟩ | exact ⟨rfl, _, Eq.trans (World.drewN_drewN _ _ _) (congrArg (World.drewN _) (Nat.add_assoc _ _ _))⟩); have p227 : 0 ≤ (0 : Int) := (by omega); have q227 : 0 < ((rd_L4 l1 x12_1).length : Int) := of_decide_eq_true (by first | (with_reducible assumption) | assumption); obtain ⟨ad227, e227, hx227_0⟩ := Kd.at_int HR225_0.out 0 p227 q227; cases e227; have qi227 : (0 < (rd_L4 l1 x12_1).length) = True := eq_true (by omega); (try rw [show ((0 : Int)).toNat = 0 from rfl] at hx227_0); (try rw [Addr.add_zero'] at hx227_0); replace p227 := eq_true p227; replace q227 := eq_true q227; have p228 : 0 ≤ (1 : Int) := (by omega); have q228 : 1 < ((rd_L4 l1 x12_1).length : Int) := of_decide_eq_true (by first | (with_reducible assumption) | assumption); obtain ⟨ad228, e228, hx228_0⟩ := Kd.at_int HR225_0.out 1 p228 q228; obtain rfl : ad227 = ad228 := (by injection e228); (try simp only [show (1 : Int).toNat = 1 from rfl, Nat.reduceMul, Nat.reduceEqDiff, Go.Addr.add, ↓reduceIte] at hx228_0); have qi228 : (1 < (rd_L4 l1 x12_1).length) = True := eq_true (by omega); (try rw [show ((1 : Int)).toNat = 1 from rfl] at hx228_0); replace p228 := eq_true p228; replace q228 := eq_true q228)))
            go_ret
            exact ⟨by first | rfl | (simp; done) | (simp [*]; done), by repeat (first | exact Drawn0.refl _ | apply Drawn0.step)⟩
           ·rw [if_neg c12] at H
            have c12b0 : ((rd (rd_L4 l1 x12_1) 0) == (rd (rd_L4 l1 x12_1) 1)) = false := beq_eq_false_iff_ne.mpr c12
            have c12b1 : ((rd (rd_L4 l1 x12_1) 0) != (rd (rd_L4 l1 x12_1) 1)) = true := bne_iff_ne.mpr c12
            have H' := Aside0.mk H
            clear H
            have p225 : 0 ≤ (x12_1 : Int) := of_decide_eq_true (by first | (with_reducible assumption) | assumption)
            have q225 : x12_1 < (l1.length : Int) := of_decide_eq_true (by first | (with_reducible assumption) | assumption)
            obtain ⟨ad225, A225_0, c225_0, e225, hx225_0, hl225_0, hi225_0⟩ := at_L4 HR1.out x12_1 p225 q225
            cases e225
            have HR225_0 := Aside0.mk hi225_0
            have HC225_0 := Aside0.mk hl225_0
            clear hi225_0 hl225_0
            replace p225 := eq_true p225
            replace q225 := eq_true q225
            go_wp2_with (first | (go_at_call 93; (try simp only [i64_w, i32_w]); (with_reducible refine (spec_l1All.calls k1 _ _ (rd_L4 l1 x12_1) 0 (wrap64 (a0 - 1)) true _ ?side1 ?side2 A8.out).mono ?_); (case side1 => exact xd (HR225_0.out)); (case side2 => exact HC225_0.out); rintro e w' ⟨rfl, ⟨nd, rfl⟩⟩; (try first | exact ⟨rfl, _, World.drewN_drewN _ _ _⟩ | exact ⟨rfl, _, Eq.trans (World.drewN_drewN _ _ _) (congrArg (World.drewN _) (Nat.add_assoc _ _ _))⟩); have p227 : 0 ≤ (0 : Int) := (by omega); have q227 : 0 < ((rd_L4 l1 x12_1).length : Int) := of_decide_eq_true (by first | (with_reducible assumption) | assumption); obtain ⟨ad227, e227, hx227_0⟩ := Kd.at_int HR225_0.out 0 p227 q227; cases e227; have qi227 : (0 < (rd_L4 l1 x12_1).length) = True := eq_true (by omega); (try rw [show ((0 : Int)).toNat = 0 from rfl] at hx227_0); (try rw [Addr.add_zero'] at hx227_0); replace p227 := eq_true p227; replace q227 := eq_true q227; have p228 : 0 ≤ (1 : Int) := (by omega); have q228 : 1 < ((rd_L4 l1 x12_1).length : Int) := of_decide_eq_true (by first | (with_reducible assumption) | assumption); obtain ⟨ad228, e228, hx228_0⟩ := Kd.at_int HR225_0.out 1 p228 q228; obtain rfl : ad227 = ad228 := (by injection e228); (try simp only [show (1 : Int).toNat = 1 from rfl, Nat.reduceMul, Nat.reduceEqDiff, Go.Addr.add, ↓reduceIte] at hx228_0); have qi228 : (1 < (rd_L4 l1 x12_1).length) = True := eq_true (by omega); (try rw [show ((1 : Int)).toNat = 1 from rfl] at hx228_0); replace p228 := eq_true p228; replace q228 := eq_true q228))
            repeat (go_quiet (first | (go_at_call 93; (try simp only [i64_w, i32_w]); (with_reducible refine (spec_l1All.calls k1 _ _ (rd_L4 l1 x12_1) 0 (wrap64 (a0 - 1)) true _ ?side1 ?side2 A8.out).mono ?_); (case side1 => exact xd (HR225_0.out)); (case side2 => exact HC225_0.out); rintro e w' ⟨rfl, ⟨nd, rfl⟩⟩; (try first | exact ⟨rfl, _, World.drewN_drewN _ _ _⟩ | exact ⟨rfl, _, Eq.trans (World.drewN_drewN _ _ _) (congrArg (World.drewN _) (Nat.add_assoc _ _ _))⟩); have p227 : 0 ≤ (0 : Int) := (by omega); have q227 : 0 < ((rd_L4 l1 x12_1).length : Int) := of_decide_eq_true (by first | (with_reducible assumption) | assumption); obtain ⟨ad227, e227, hx227_0⟩ := Kd.at_int HR225_0.out 0 p227 q227; cases e227; have qi227 : (0 < (rd_L4 l1 x12_1).length) = True := eq_true (by omega); (try rw [show ((0 : Int)).toNat = 0 from rfl] at hx227_0); (try rw [Addr.add_zero'] at hx227_0); replace p227 := eq_true p227; replace q227 := eq_true q227; have p228 : 0 ≤ (1 : Int) := (by omega); have q228 : 1 < ((rd_L4 l1 x12_1).length : Int) := of_decide_eq_true (by first | (with_reducible assumption) | assumption); obtain ⟨ad228, e228, hx228_0⟩ := Kd.at_int HR225_0.out 1 p228 q228; obtain rfl : ad227 = ad228 := (by injection e228); (try simp only [show (1 : Int).toNat = 1 from rfl, Nat.reduceMul, Nat.reduceEqDiff, Go.Addr.add, ↓reduceIte] at hx228_0); have qi228 : (1 < (rd_L4 l1 x12_1).length) = True := eq_true (by omega); (try rw [show ((1 : Int)).toNat = 1 from rfl] at hx228_0); replace p228 := eq_true p228; replace q228 := eq_true q228)); try go_wp2_with (first | (go_at_call 93; (try simp only [i64_w, i32_w]); (with_reducible refine (spec_l1All.calls k1 _ _ (rd_L4 l1 x12_1) 0 (wrap64 (a0 - 1)) true _ ?side1 ?side2 A8.out).mono ?_); (case side1 => exact xd (HR225_0.out)); (case side2 => exact HC225_0.out); rintro e w' ⟨rfl, ⟨nd, rfl⟩⟩; (try first | exact ⟨rfl, _, World.drewN_drewN _ _ _⟩ | exact ⟨rfl, _, Eq.trans (World.drewN_drewN _ _ _) (congrArg (World.drewN _) (Nat.add_assoc _ _ _))⟩); have p227 : 0 ≤ (0 : Int) := (by omega); have q227 : 0 < ((rd_L4 l1 x12_1).length : Int) := of_decide_eq_true (by first | (with_reducible assumption) | assumption); obtain ⟨ad227, e227, hx227_0⟩ := Kd.at_int HR225_0.out 0 p227 q227; cases e227; have qi227 : (0 < (rd_L4 l1 x12_1).length) = True := eq_true (by omega); (try rw [show ((0 : Int)).toNat = 0 from rfl] at hx227_0); (try rw [Addr.add_zero'] at hx227_0); replace p227 := eq_true p227; replace q227 := eq_true q227; have p228 : 0 ≤ (1 : Int) := (by omega); have q228 : 1 < ((rd_L4 l1 x12_1).length : Int) := of_decide_eq_true (by first | (with_reducible assumption) | assumption); obtain ⟨ad228, e228, hx228_0⟩ := Kd.at_int HR225_0.out 1 p228 q228; obtain rfl : ad227 = ad228 := (by injection e228); (try simp only [show (1 : Int).toNat = 1 from rfl, Nat.reduceMul, Nat.reduceEqDiff, Go.Addr.add, ↓reduceIte] at hx228_0); have qi228 : (1 < (rd_L4 l1 x12_1).length) = True := eq_true (by omega); (try rw [show ((1 : Int)).toNat = 1 from rfl] at hx228_0); replace p228 := eq_true p228; replace q228 := eq_true q228)))
            go_roundg k1
            case measure => have := HK1.out; omega
            case rel => exact ⟨(wrap64 (x12_1 + 1)), (by first | rfl | (simp; done) | (simp [*]; done)), H', ⟨by have := HK1.out; omega⟩, by repeat (first | exact Drawn0.refl _ | apply Drawn0.step)⟩
          ·rw [if_neg c11] at H
           exact absurd H (by simp)
         ·rw [if_neg c10] at H
          exact absurd H (by simp)
        ·replace c9 := Bool.eq_false_iff.mpr c9
         subst c9
         have H1 : (some false) = some r := by rw [if_neg (show ¬ (false = true) by decide)] at H; exact H
         clear H
         have H := H1
         clear H1
         obtain rfl := Option.some.inj H
         have p225 : 0 ≤ (x12_1 : Int) := of_decide_eq_true (by first | (with_reducible assumption) | assumption)
         have q225 : x12_1 < (l1.length : Int) := of_decide_eq_true (by first | (with_reducible assumption) | assumption)
         obtain ⟨ad225, A225_0, c225_0, e225, hx225_0, hl225_0, hi225_0⟩ := at_L4 HR1.out x12_1 p225 q225
         cases e225
         have HR225_0 := Aside0.mk hi225_0
         have HC225_0 := Aside0.mk hl225_0
         clear hi225_0 hl225_0
         replace p225 := eq_true p225
         replace q225 := eq_true q225
         go_wp2_with (first | (go_at_call 93; (try simp only [i64_w, i32_w]); (with_reducible refine (spec_l1All.calls k1 _ _ (rd_L4 l1 x12_1) 0 (wrap64 (a0 - 1)) false _ ?side1 ?side2 A8.out).mono ?_); (case side1 => exact xd (HR225_0.out)); (case side2 => exact HC225_0.out); rintro e w' ⟨rfl, ⟨nd, rfl⟩⟩; (try first | exact ⟨rfl, _, World.drewN_drewN _ _ _⟩ | exact ⟨rfl, _, Eq.trans (World.drewN_drewN _ _ _) (congrArg (World.drewN _) (Nat.add_assoc _ _ _))⟩)))
         repeat (go_quiet (first | (go_at_call 93; (try simp only [i64_w, i32_w]); (with_reducible refine (spec_l1All.calls k1 _ _ (rd_L4 l1 x12_1) 0 (wrap64 (a0 - 1)) false _ ?side1 ?side2 A8.out).mono ?_); (case side1 => exact xd (HR225_0.out)); (case side2 => exact HC225_0.out); rintro e w' ⟨rfl, ⟨nd, rfl⟩⟩; (try first | exact ⟨rfl, _, World.drewN_drewN _ _ _⟩ | exact ⟨rfl, _, Eq.trans (World.drewN_drewN _ _ _) (congrArg (World.drewN _) (Nat.add_assoc _ _ _))⟩))); try go_wp2_with (first | (go_at_call 93; (try simp only [i64_w, i32_w]); (with_reducible refine (spec_l1All.calls k1 _ _ (rd_L4 l1 x12_1) 0 (wrap64 (a0 - 1)) false _ ?side1 ?side2 A8.out).mono ?_); (case side1 => exact xd (HR225_0.out)); (case side2 => exact HC225_0.out); rintro e w' ⟨rfl, ⟨nd, rfl⟩⟩; (try first | exact ⟨rfl, _, World.drewN_drewN _ _ _⟩ | exact ⟨rfl, _, Eq.trans (World.drewN_drewN _ _ _) (congrArg (World.drewN _) (Nat.add_assoc _ _ _))⟩))))
         go_ret
         exact ⟨by first | rfl | (simp; done) | (simp [*]; done), by repeat (first | exact Drawn0.refl _ | apply Drawn0.step)⟩
       ·rw [if_neg c7] at H
        have c7b0 : (((rd_L4 l1 x12_1).length : Int) == 2) = false := beq_eq_false_iff_ne.mpr c7
        have c7b1 : (((rd_L4 l1 x12_1).length : Int) != 2) = true := bne_iff_ne.mpr c7
        obtain rfl := Option.some.inj H
        have p225 : 0 ≤ (x12_1 : Int) := of_decide_eq_true (by first | (with_reducible assumption) | assumption)
        have q225 : x12_1 < (l1.length : Int) := of_decide_eq_true (by first | (with_reducible assumption) | assumption)
        obtain ⟨ad225, A225_0, c225_0, e225, hx225_0, hl225_0, hi225_0⟩ := at_L4 HR1.out x12_1 p225 q225
        cases e225
        have HR225_0 := Aside0.mk hi225_0
        have HC225_0 := Aside0.mk hl225_0
        clear hi225_0 hl225_0
        replace p225 := eq_true p225
        replace q225 := eq_true q225
        go_wp2
        repeat (go_quiet (fail); try go_wp2)
        go_ret
        exact ⟨by first | rfl | (simp; done) | (simp [*]; done), by repeat (first | exact Drawn0.refl _ | apply Drawn0.step)⟩
      ·rw [if_neg c6] at H
       exact absurd H (by simp)
     ·rw [if_neg c5] at H
      exact absurd H (by simp)
    ·rw [if_neg c4] at H
     have c4b0 : decide (x12_1 < (l1.length : Int)) = false := decide_eq_false c4
     clear c4
     obtain rfl := Option.some.inj H
     go_wp2
     repeat (go_quiet (fail); try go_wp2)
     go_ret
     exact ⟨by first | rfl | (simp; done) | (simp [*]; done), by repeat (first | exact Drawn0.refl _ | apply Drawn0.step)⟩

/-! ### spec_leJoined: function 59 -/
def spec_leJoined.f (k : Nat) (l0 : List (S63)) (l1 : List (List Int)) : Option (Bool) := (spec_leTanks.f k l0).bind fun t229 => (if t229 = true then ((spec_leJoins.f k (l0.length : Int) l1).bind fun t230 => (some t230)) else (some false))
set_option maxHeartbeats 8000000 in
set_option maxRecDepth 100000 in
theorem spec_leJoined.calls (k : Nat) (A0 : Option Addr) (c0 : Nat) (l0 : List (S63)) (A1 : Option Addr) (c1 : Nat) (l1 : List (List Int)) (r : Bool) (w : World) (hr0 : Kd.C k63 w A0 l0.length l0) (hc0 : l0.length ≤ c0) (hr1 : Kd.C (Kd.slice 3 (Kd.int .i64)) w A1 l1.length l1) (hc1 : l1.length ≤ c1) (h : spec_leJoined.f k l0 l1 = some r) :
  Calls Try.prog 59 #[.slice A0 l0.length c0, .slice A1 l1.length c1] w fun e w' => e = .returned (.bool r) ∧ Below w.heap.size w w' := by
 have HR0 := Aside0.mk hr0
 have HC0 := Aside0.mk hc0
 clear hr0 hc0
 have HR1 := Aside0.mk hr1
 have HC1 := Aside0.mk hc1
 clear hr1 hc1
 have HB := Aside0.mk (Below.refl w.heap.size w)
 have H : ((spec_leTanks.f k l0).bind fun t229 => (if t229 = true then ((spec_leJoins.f k (l0.length : Int) l1).bind fun t230 => (some t230)) else (some false))) = some r := h
 clear h
 replace H := Option.bind_eq_some_iff.mp H
 obtain ⟨t229, A30, H⟩ := H
 replace H : (if t229 = true then ((spec_leJoins.f k (l0.length : Int) l1).bind fun t230 => (some t230)) else (some false)) = some r := H
 have A3 := Aside0.mk A30
 clear A30
 by_cases c4 : t229 = true
 ·subst c4
  have H1 : ((spec_leJoins.f k (l0.length : Int) l1).bind fun t230 => (some t230)) = some r := by rw [if_pos rfl] at H; exact H
  clear H
  have H := H1
  clear H1
  replace H := Option.bind_eq_some_iff.mp H
  obtain ⟨t230, A50, H⟩ := H
  replace H : (some t230) = some r := H
  have A5 := Aside0.mk A50
  clear A50
  obtain rfl := Option.some.inj H
  go_enter Try.func59, Try.ntmps59
  go_wp2_with (first | ((with_reducible refine gate_callee (f := 50) rfl ?_); refine goesL_ (some 6) rfl rfl Try.func50 (by kernel_rfl) rfl #[.slice A0 l0.length c0] rfl (by (try simp only [List.map_toArray, List.map_cons, List.map_nil]); first | done | rfl | (simp only [List.length_drop, List.length_take]; rfl)) ?_; (with_reducible refine (spec_leTanks.calls k _ _ l0 true _ ?side1 ?side2 A3.out).mono ?_); (case side1 => exact xd (HR0.out)); (case side2 => exact HC0.out); rintro e w6 ⟨rfl, hb⟩; refine ⟨_, rfl, ?_⟩; replace HB := xp HB hb; (try clear hb); (try clear hb2); (try clear hk); (try clear hi)) | (go_at_call 65; (with_reducible refine (spec_leJoins.calls k (l0.length : Int) _ _ l1 t230 _ ?side1 ?side2 A5.out).mono ?_); (case side1 => exact xd ((Kd.C_below HR1.out HB.out))); (case side2 => exact HC1.out); rintro e w' ⟨rfl, ⟨nd, rfl⟩⟩))
  go_ret
  exact ⟨by first | rfl | (simp [errW_none, errW_some] <;> rfl) | (simp [*, errW_none, errW_some] <;> rfl), by repeat (first | (with_reducible first | exact HB.out | apply below_alloc | apply pw_below_drewN | apply below_drew1) | exact HB.out)⟩
 ·replace c4 := Bool.eq_false_iff.mpr c4
  subst c4
  have H1 : (some false) = some r := by rw [if_neg (show ¬ (false = true) by decide)] at H; exact H
  clear H
  have H := H1
  clear H1
  obtain rfl := Option.some.inj H
  go_enter Try.func59, Try.ntmps59
  go_wp2_with (first | ((with_reducible refine gate_callee (f := 50) rfl ?_); refine goesL_ (some 6) rfl rfl Try.func50 (by kernel_rfl) rfl #[.slice A0 l0.length c0] rfl (by (try simp only [List.map_toArray, List.map_cons, List.map_nil]); first | done | rfl | (simp only [List.length_drop, List.length_take]; rfl)) ?_; (with_reducible refine (spec_leTanks.calls k _ _ l0 false _ ?side1 ?side2 A3.out).mono ?_); (case side1 => exact xd (HR0.out)); (case side2 => exact HC0.out); rintro e w7 ⟨rfl, hb⟩; refine ⟨_, rfl, ?_⟩; replace HB := xp HB hb; (try clear hb); (try clear hb2); (try clear hk); (try clear hi)))
  go_ret
  exact ⟨by first | rfl | (simp [errW_none, errW_some] <;> rfl) | (simp [*, errW_none, errW_some] <;> rfl), by repeat (first | (with_reducible first | exact HB.out | apply below_alloc | apply pw_below_drewN | apply below_drew1) | exact HB.out)⟩

/-! ### spec_l1Least: function 92 -/
def spec_l1Least.f (a0 : Int) (a1 : Int) : Option (Int) := if a0 < a1 then (some a0) else (some a1)
set_option maxHeartbeats 8000000 in
set_option maxRecDepth 100000 in
theorem spec_l1Least.calls (a0 : Int) (a1 : Int) (r : Int) (w : World) (h : spec_l1Least.f a0 a1 = some r) :
  Calls Try.prog 92 #[.int .i64 a0, .int .i64 a1] w fun e w' => e = .returned (.int .i64 r) ∧ Drawn0 w w' := by
 have H : (if a0 < a1 then (some a0) else (some a1)) = some r := h
 clear h
 by_cases c3 : a0 < a1
 ·rw [if_pos c3] at H
  have c3b0 : decide (a0 < a1) = true := decide_eq_true c3
  clear c3
  obtain rfl := Option.some.inj H
  go_enter Try.func92, Try.ntmps92
  go_wp2
  go_ret
  exact ⟨by first | rfl | (simp; done) | (simp [*]; done), by repeat (first | exact Drawn0.refl _ | apply Drawn0.step)⟩
 ·rw [if_neg c3] at H
  have c3b0 : decide (a0 < a1) = false := decide_eq_false c3
  clear c3
  obtain rfl := Option.some.inj H
  go_enter Try.func92, Try.ntmps92
  go_wp2
  go_ret
  exact ⟨by first | rfl | (simp; done) | (simp [*]; done), by repeat (first | exact Drawn0.refl _ | apply Drawn0.step)⟩

end Go.Proofs.Ytedkbaadbnpkoaa.PFnExactGroupLevels

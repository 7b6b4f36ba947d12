/- Lean functions of the Go functions that the law FnExactStatesAlong reaches, and the proofs that the calls come to what they say (made by program). -/
import Derived.Test.YtobkbpoamicjgaaPFnExactStatesAlongx0
import Derived.Test.YtobkbpoamicjgaaPFnExactStatesAlongx1
import Derived.Test.YtobkbpoamicjgaaPFnExactStatesAlongx2
import Derived.Test.YtobkbpoamicjgaaPFnExactStatesAlongx5
import Derived.Test.YtobkbpoamicjgaaPFnExactStatesAlongx8
namespace Go.Proofs.Ytobkbpoamicjgaa.PFnExactStatesAlong
open Go.RowKit Go.Proofs.YtobkbpoamicjgaaW.PrintWords Go.Proofs.YtobkbpoamicjgaaW.PrintLast Go.Proofs.YtobkbpoamicjgaaW.PrintMore
attribute [local go_sem] max2_int min2_int max_two min_two max_three min_three max_four min_four   -- for this text's walks alone
set_option linter.unusedVariables false
set_option linter.unusedSimpArgs false

/-! ### laws_heldIntS: function 68 -/
def laws_heldIntS.l0 : Nat → List Int → Int → Int → Option (Int)
  | 0, _, _, _ => none
  | k + 1, x0, x1, x5 => if x5 < (x0.length : Int) then (if 0 ≤ x5 then (if (rd x0 x5) = x1 then (laws_heldIntS.l0 k x0 (wrap64 (x1 + 1)) (wrap64 (x5 + 1))) else (some (-1))) else (none)) else (some x1)
def laws_heldIntS.f (k : Nat) (l0 : List Int) (a1 : Int) : Option (Int) := laws_heldIntS.l0 k l0 a1 0
theorem laws_heldIntS.mono_l : ∀ k, (∀ y0 y1 y2, LeO (laws_heldIntS.l0 k y0 y1 y2) (laws_heldIntS.l0 (k + 1) y0 y1 y2))
  | 0 => fun _ _ _ r h => by simp [laws_heldIntS.l0] at h
  | k + 1 => by
    have ih0 := laws_heldIntS.mono_l k
    · intro y0 y1 y2
      unfold laws_heldIntS.l0
      repeat' first
      | (with_reducible exact ih0 _ _ _)
      | (with_reducible exact LeO.refl _)
      | (with_reducible exact LeO.none _)
      | (with_reducible refine LeO.ite ?_ ?_)
      | (with_reducible refine LeO.bind ?_ (fun _ => ?_))
      | exact ih0 _ _ _
      | exact LeO.none _
      | refine LeO.ite ?_ ?_
      | refine LeO.bind ?_ (fun _ => ?_)
theorem laws_heldIntS.mono : ∀ a0 a1 k, LeO (laws_heldIntS.f k a0 a1) (laws_heldIntS.f (k + 1) a0 a1) := by
  intro a0 a1 k
  have ih0 := laws_heldIntS.mono_l k
  unfold laws_heldIntS.f
  repeat' first
      | (with_reducible exact ih0 _ _ _)
      | (with_reducible exact LeO.refl _)
      | (with_reducible exact LeO.none _)
      | (with_reducible refine LeO.ite ?_ ?_)
      | (with_reducible refine LeO.bind ?_ (fun _ => ?_))
      | exact ih0 _ _ _
      | exact LeO.none _
      | refine LeO.ite ?_ ?_
      | refine LeO.bind ?_ (fun _ => ?_)
set_option maxHeartbeats 8000000 in
set_option maxRecDepth 100000 in
theorem laws_heldIntS.calls (k : Nat) (A0 : Option Addr) (c0 : Nat) (l0 : List Int) (a1 : Int) (r : Int) (w : World) (hr0 : Kd.C (Kd.int .i64) w A0 l0.length l0) (hc0 : l0.length ≤ c0) (h : laws_heldIntS.f k l0 a1 = some r) :
    Calls Try.prog 68 #[.slice A0 l0.length c0, .int .i64 a1] w fun e w' => e = .returned (.int .i64 r) ∧ Drawn0 w w' := by
  have HR0 := Aside0.mk hr0
  have HC0 := Aside0.mk hc0
  clear hr0 hc0
  have H : (laws_heldIntS.l0 k l0 a1 0) = some r := h
  clear h
  have H' := Aside0.mk H
  clear H
  go_enter Try.func68, Try.ntmps68
  go_wp2
  go_loopg [1, 5] k (fun kq v1 v5 w' => ∃ (x1_1 : Int) (x5_1 : Int), v1 = .int .i64 x1_1 ∧ v5 = .int .i64 x5_1 ∧ Aside0 (laws_heldIntS.l0 kq l0 x1_1 x5_1 = some r) ∧ Aside0 (kq ≤ k) ∧ Drawn0 w w')
  case atStart => exact ⟨(a1), (0), (by first | rfl | (simp; done) | (simp [*]; done)), (by first | rfl | (simp; done) | (simp [*]; done)), H', ⟨Nat.le_refl _⟩, by repeat (first | exact Drawn0.refl _ | apply Drawn0.step)⟩
  case round =>
    clear H'
    try clear p2
    obtain ⟨x1_1, x5_1, rfl, rfl, HA, HK1, ⟨m1, rfl⟩⟩ := hrel
    cases gk with
    | zero => exact absurd HA.out (by simp [laws_heldIntS.l0])
    | succ k1 =>
      have H := HA.out
      clear HA
      simp only [laws_heldIntS.l0] at H
      by_cases c3 : x5_1 < (l0.length : Int)
      · rw [if_pos c3] at H
        have c3b0 : decide (x5_1 < (l0.length : Int)) = true := decide_eq_true c3
        clear c3
        by_cases c4 : 0 ≤ x5_1
        · rw [if_pos c4] at H
          have c4b0 : decide (0 ≤ x5_1) = true := decide_eq_true c4
          clear c4
          by_cases c5 : (rd l0 x5_1) = x1_1
          · rw [if_pos c5] at H
            have c5b0 : ((rd l0 x5_1) == x1_1) = true := beq_iff_eq.mpr c5
            have c5b1 : ((rd l0 x5_1) != x1_1) = false := bne_eq_false_iff_eq.mpr c5
            clear c5
            have H' := Aside0.mk H
            clear H
            have p246 : 0 ≤ (x5_1 : Int) := of_decide_eq_true (by first | (with_reducible assumption) | assumption)
            have q246 : x5_1 < (l0.length : Int) := of_decide_eq_true (by first | (with_reducible assumption) | assumption)
            obtain ⟨ad246, e246, hx246_0⟩ := Kd.at_int HR0.out x5_1 p246 q246
            cases e246
            replace p246 := eq_true p246
            replace q246 := eq_true q246
            go_wp2
            go_roundg k1
            case measure => have := HK1.out; omega
            case rel => exact ⟨(wrap64 (x1_1 + 1)), (wrap64 (x5_1 + 1)), (by first | rfl | (simp; done) | (simp [*]; done)), (by first | rfl | (simp; done) | (simp [*]; done)), H', ⟨by have := HK1.out; omega⟩, by repeat (first | exact Drawn0.refl _ | apply Drawn0.step)⟩
          · rw [if_neg c5] at H
            have c5b0 : ((rd l0 x5_1) == x1_1) = false := beq_eq_false_iff_ne.mpr c5
            have c5b1 : ((rd l0 x5_1) != x1_1) = true := bne_iff_ne.mpr c5
            obtain rfl := Option.some.inj H
            have p246 : 0 ≤ (x5_1 : Int) := of_decide_eq_true (by first | (with_reducible assumption) | assumption)
            have q246 : x5_1 < (l0.length : Int) := of_decide_eq_true (by first | (with_reducible assumption) | assumption)
            obtain ⟨ad246, e246, hx246_0⟩ := Kd.at_int HR0.out x5_1 p246 q246
            cases e246
            replace p246 := eq_true p246
            replace q246 := eq_true q246
            go_wp2
            go_ret
            exact ⟨by first | rfl | (simp; done) | (simp [*]; done), by repeat (first | exact Drawn0.refl _ | apply Drawn0.step)⟩
        · rw [if_neg c4] at H
          exact absurd H (by simp)
      · rw [if_neg c3] at H
        have c3b0 : decide (x5_1 < (l0.length : Int)) = false := decide_eq_false c3
        clear c3
        obtain rfl := Option.some.inj H
        go_wp2
        go_ret
        exact ⟨by first | rfl | (simp; done) | (simp [*]; done), by repeat (first | exact Drawn0.refl _ | apply Drawn0.step)⟩

/-! ### laws_heldVesselsS: function 41 -/
def laws_heldVesselsS.l0 : Nat → List (S26) → Int → Int → Option (Int)
  | 0, _, _, _ => none
  | k + 1, x0, x1, x5 => if x5 < (x0.length : Int) then (if 0 ≤ x5 then ((laws_heldIntS.f k ((rd_T26 x0 x5).f0) x1).bind fun t248 => (if t248 < 0 then (some (-1)) else ((laws_heldIntS.f k ((rd_T26 x0 x5).f1) t248).bind fun t250 => (if t250 < 0 then (some (-1)) else (laws_heldVesselsS.l0 k x0 t250 (wrap64 (x5 + 1))))))) else (none)) else (some x1)
def laws_heldVesselsS.f (k : Nat) (l0 : List (S26)) (a1 : Int) : Option (Int) := laws_heldVesselsS.l0 k l0 a1 0
theorem laws_heldVesselsS.mono_l : ∀ k, (∀ y0 y1 y2, LeO (laws_heldVesselsS.l0 k y0 y1 y2) (laws_heldVesselsS.l0 (k + 1) y0 y1 y2))
  | 0 => fun _ _ _ r h => by simp [laws_heldVesselsS.l0] at h
  | k + 1 => by
    have ih0 := laws_heldVesselsS.mono_l k
    · intro y0 y1 y2
      unfold laws_heldVesselsS.l0
      repeat' first
      | (with_reducible exact ih0 _ _ _)
      | (with_reducible exact laws_heldIntS.mono _ _ _)
      | (with_reducible exact LeO.refl _)
      | (with_reducible exact LeO.none _)
      | (with_reducible refine LeO.ite ?_ ?_)
      | (with_reducible refine LeO.bind ?_ (fun _ => ?_))
      | exact ih0 _ _ _
      | exact laws_heldIntS.mono _ _ _
      | exact LeO.none _
      | refine LeO.ite ?_ ?_
      | refine LeO.bind ?_ (fun _ => ?_)
theorem laws_heldVesselsS.mono : ∀ a0 a1 k, LeO (laws_heldVesselsS.f k a0 a1) (laws_heldVesselsS.f (k + 1) a0 a1) := by
  intro a0 a1 k
  have ih0 := laws_heldVesselsS.mono_l k
  unfold laws_heldVesselsS.f
  repeat' first
      | (with_reducible exact ih0 _ _ _)
      | (with_reducible exact laws_heldIntS.mono _ _ _)
      | (with_reducible exact LeO.refl _)
      | (with_reducible exact LeO.none _)
      | (with_reducible refine LeO.ite ?_ ?_)
      | (with_reducible refine LeO.bind ?_ (fun _ => ?_))
      | exact ih0 _ _ _
      | exact laws_heldIntS.mono _ _ _
      | exact LeO.none _
      | refine LeO.ite ?_ ?_
      | refine LeO.bind ?_ (fun _ => ?_)
set_option maxHeartbeats 8000000 in
set_option maxRecDepth 100000 in
theorem laws_heldVesselsS.calls (k : Nat) (A0 : Option Addr) (c0 : Nat) (l0 : List (S26)) (a1 : Int) (r : Int) (w : World) (hr0 : Kd.C k26 w A0 l0.length l0) (hc0 : l0.length ≤ c0) (h : laws_heldVesselsS.f k l0 a1 = some r) :
    Calls Try.prog 41 #[.slice A0 l0.length c0, .int .i64 a1] w fun e w' => e = .returned (.int .i64 r) ∧ Drawn0 w w' := by
  have HR0 := Aside0.mk hr0
  have HC0 := Aside0.mk hc0
  clear hr0 hc0
  have H : (laws_heldVesselsS.l0 k l0 a1 0) = some r := h
  clear h
  have H' := Aside0.mk H
  clear H
  go_enter Try.func41, Try.ntmps41
  go_wp2
  go_loopg [1, 5] k (fun kq v1 v5 w' => ∃ (x1_1 : Int) (x5_1 : Int), v1 = .int .i64 x1_1 ∧ v5 = .int .i64 x5_1 ∧ Aside0 (laws_heldVesselsS.l0 kq l0 x1_1 x5_1 = some r) ∧ Aside0 (kq ≤ k) ∧ Drawn0 w w')
  case atStart => exact ⟨(a1), (0), (by first | rfl | (simp; done) | (simp [*]; done)), (by first | rfl | (simp; done) | (simp [*]; done)), H', ⟨Nat.le_refl _⟩, by repeat (first | exact Drawn0.refl _ | apply Drawn0.step)⟩
  case round =>
    clear H'
    try clear p2
    obtain ⟨x1_1, x5_1, rfl, rfl, HA, HK1, ⟨m1, rfl⟩⟩ := hrel
    cases gk with
    | zero => exact absurd HA.out (by simp [laws_heldVesselsS.l0])
    | succ k1 =>
      have H := HA.out
      clear HA
      simp only [laws_heldVesselsS.l0] at H
      by_cases c3 : x5_1 < (l0.length : Int)
      · rw [if_pos c3] at H
        have c3b0 : decide (x5_1 < (l0.length : Int)) = true := decide_eq_true c3
        clear c3
        by_cases c4 : 0 ≤ x5_1
        · rw [if_pos c4] at H
          have c4b0 : decide (0 ≤ x5_1) = true := decide_eq_true c4
          clear c4
          replace H := Option.bind_eq_some_iff.mp H
          obtain ⟨t248, A50, H⟩ := H
          replace H : (if t248 < 0 then (some (-1)) else ((laws_heldIntS.f k1 ((rd_T26 l0 x5_1).f1) t248).bind fun t250 => (if t250 < 0 then (some (-1)) else (laws_heldVesselsS.l0 k1 l0 t250 (wrap64 (x5_1 + 1)))))) = some r := H
          have A5 := Aside0.mk A50
          clear A50
          by_cases c6 : t248 < 0
          · rw [if_pos c6] at H
            have c6b0 : decide (t248 < 0) = true := decide_eq_true c6
            clear c6
            obtain rfl := Option.some.inj H
            have p247 : 0 ≤ (x5_1 : Int) := of_decide_eq_true (by first | (with_reducible assumption) | assumption)
            have q247 : x5_1 < (l0.length : Int) := of_decide_eq_true (by first | (with_reducible assumption) | assumption)
            obtain ⟨ad247, A247_0, c247_0, A247_1, c247_1, e247, hx247_0, hx247_1, hl247_0, hi247_0, hl247_1, hi247_1⟩ := at_T26 HR0.out x5_1 p247 q247
            cases e247
            have HR247_0 := Aside0.mk hi247_0
            have HC247_0 := Aside0.mk hl247_0
            clear hi247_0 hl247_0
            have HR247_1 := Aside0.mk hi247_1
            have HC247_1 := Aside0.mk hl247_1
            clear hi247_1 hl247_1
            replace p247 := eq_true p247
            replace q247 := eq_true q247
            go_wp2_with (first | ((with_reducible refine gate_callee (f := 68) rfl ?_); refine goesL_ (some 18) rfl rfl Try.func68 (by kernel_rfl) rfl #[.slice A247_0 ((rd_T26 l0 x5_1).f0).length c247_0, .int .i64 x1_1] rfl (by (try simp only [List.map_toArray, List.map_cons, List.map_nil]); first | done | rfl | (simp only [List.length_drop, List.length_take]; rfl)) ?_; (with_reducible refine (laws_heldIntS.calls k1 _ _ ((rd_T26 l0 x5_1).f0) x1_1 t248 _ ?side1 ?side2 A5.out).mono ?_); (case side1 => repeat (first | exact HR247_0.out | (with_reducible refine Kd.C_alloc ?_ _) | (with_reducible refine Kd.C_drewN ?_ _) | (with_reducible refine Kd.C_drew ?_))); (case side2 => exact HC247_0.out); rintro e w' ⟨rfl, ⟨nd, rfl⟩⟩; refine ⟨_, rfl, ?_⟩))
            go_ret
            exact ⟨by first | rfl | (simp; done) | (simp [*]; done), by repeat (first | exact Drawn0.refl _ | apply Drawn0.step)⟩
          · rw [if_neg c6] at H
            have c6b0 : decide (t248 < 0) = false := decide_eq_false c6
            clear c6
            replace H := Option.bind_eq_some_iff.mp H
            obtain ⟨t250, A70, H⟩ := H
            replace H : (if t250 < 0 then (some (-1)) else (laws_heldVesselsS.l0 k1 l0 t250 (wrap64 (x5_1 + 1)))) = some r := H
            have A7 := Aside0.mk A70
            clear A70
            by_cases c8 : t250 < 0
            · rw [if_pos c8] at H
              have c8b0 : decide (t250 < 0) = true := decide_eq_true c8
              clear c8
              obtain rfl := Option.some.inj H
              have p247 : 0 ≤ (x5_1 : Int) := of_decide_eq_true (by first | (with_reducible assumption) | assumption)
              have q247 : x5_1 < (l0.length : Int) := of_decide_eq_true (by first | (with_reducible assumption) | assumption)
              obtain ⟨ad247, A247_0, c247_0, A247_1, c247_1, e247, hx247_0, hx247_1, hl247_0, hi247_0, hl247_1, hi247_1⟩ := at_T26 HR0.out x5_1 p247 q247
              cases e247
              have HR247_0 := Aside0.mk hi247_0
              have HC247_0 := Aside0.mk hl247_0
              clear hi247_0 hl247_0
              have HR247_1 := Aside0.mk hi247_1
              have HC247_1 := Aside0.mk hl247_1
              clear hi247_1 hl247_1
              replace p247 := eq_true p247
              replace q247 := eq_true q247
              go_wp2_with (first | ((with_reducible refine gate_callee (f := 68) rfl ?_); refine goesL_ (some 18) rfl rfl Try.func68 (by kernel_rfl) rfl #[.slice A247_0 ((rd_T26 l0 x5_1).f0).length c247_0, .int .i64 x1_1] rfl (by (try simp only [List.map_toArray, List.map_cons, List.map_nil]); first | done | rfl | (simp only [List.length_drop, List.length_take]; rfl)) ?_; (with_reducible refine (laws_heldIntS.calls k1 _ _ ((rd_T26 l0 x5_1).f0) x1_1 t248 _ ?side1 ?side2 A5.out).mono ?_); (case side1 => repeat (first | exact HR247_0.out | (with_reducible refine Kd.C_alloc ?_ _) | (with_reducible refine Kd.C_drewN ?_ _) | (with_reducible refine Kd.C_drew ?_))); (case side2 => exact HC247_0.out); rintro e w' ⟨rfl, ⟨nd, rfl⟩⟩; refine ⟨_, rfl, ?_⟩; have p249 : 0 ≤ (x5_1 : Int) := of_decide_eq_true (by first | (with_reducible assumption) | assumption); have q249 : x5_1 < (l0.length : Int) := of_decide_eq_true (by first | (with_reducible assumption) | assumption); obtain ⟨ad249, A249_0, c249_0, A249_1, c249_1, e249, hx249_0, hx249_1, hl249_0, hi249_0, hl249_1, hi249_1⟩ := at_T26 HR0.out x5_1 p249 q249; obtain rfl : ad247 = ad249 := (by injection e249); have HR249_0 := Aside0.mk hi249_0; have HC249_0 := Aside0.mk hl249_0; clear hi249_0 hl249_0; have HR249_1 := Aside0.mk hi249_1; have HC249_1 := Aside0.mk hl249_1; clear hi249_1 hl249_1; replace p249 := eq_true p249; replace q249 := eq_true q249; have ea_ := Option.some.inj (hx247_0.symm.trans hx249_0); injection ea_ with ea_ en_ ec_; subst ea_; subst ec_; clear en_; have ea_ := Option.some.inj (hx247_1.symm.trans hx249_1); injection ea_ with ea_ en_ ec_; subst ea_; subst ec_; clear en_) | ((with_reducible refine gate_callee (f := 68) rfl ?_); refine goesL_ (some 27) rfl rfl Try.func68 (by kernel_rfl) rfl #[.slice A247_1 ((rd_T26 l0 x5_1).f1).length c247_1, .int .i64 t248] rfl (by (try simp only [List.map_toArray, List.map_cons, List.map_nil]); first | done | rfl | (simp only [List.length_drop, List.length_take]; rfl)) ?_; (with_reducible refine (laws_heldIntS.calls k1 _ _ ((rd_T26 l0 x5_1).f1) t248 t250 _ ?side1 ?side2 A7.out).mono ?_); (case side1 => repeat (first | exact HR249_1.out | (with_reducible refine Kd.C_alloc ?_ _) | (with_reducible refine Kd.C_drewN ?_ _) | (with_reducible refine Kd.C_drew ?_))); (case side2 => exact HC249_1.out); rintro e w' ⟨rfl, ⟨nd, rfl⟩⟩; refine ⟨_, rfl, ?_⟩))
              go_ret
              exact ⟨by first | rfl | (simp; done) | (simp [*]; done), by repeat (first | exact Drawn0.refl _ | apply Drawn0.step)⟩
            · rw [if_neg c8] at H
              have c8b0 : decide (t250 < 0) = false := decide_eq_false c8
              clear c8
              have H' := Aside0.mk H
              clear H
              have p247 : 0 ≤ (x5_1 : Int) := of_decide_eq_true (by first | (with_reducible assumption) | assumption)
              have q247 : x5_1 < (l0.length : Int) := of_decide_eq_true (by first | (with_reducible assumption) | assumption)
              obtain ⟨ad247, A247_0, c247_0, A247_1, c247_1, e247, hx247_0, hx247_1, hl247_0, hi247_0, hl247_1, hi247_1⟩ := at_T26 HR0.out x5_1 p247 q247
              cases e247
              have HR247_0 := Aside0.mk hi247_0
              have HC247_0 := Aside0.mk hl247_0
              clear hi247_0 hl247_0
              have HR247_1 := Aside0.mk hi247_1
              have HC247_1 := Aside0.mk hl247_1
              clear hi247_1 hl247_1
              replace p247 := eq_true p247
              replace q247 := eq_true q247
              go_wp2_with (first | ((with_reducible refine gate_callee (f := 68) rfl ?_); refine goesL_ (some 18) rfl rfl Try.func68 (by kernel_rfl) rfl #[.slice A247_0 ((rd_T26 l0 x5_1).f0).length c247_0, .int .i64 x1_1] rfl (by (try simp only [List.map_toArray, List.map_cons, List.map_nil]); first | done | rfl | (simp only [List.length_drop, List.length_take]; rfl)) ?_; (with_reducible refine (laws_heldIntS.calls k1 _ _ ((rd_T26 l0 x5_1).f0) x1_1 t248 _ ?side1 ?side2 A5.out).mono ?_); (case side1 => repeat (first | exact HR247_0.out | (with_reducible refine Kd.C_alloc ?_ _) | (with_reducible refine Kd.C_drewN ?_ _) | (with_reducible refine Kd.C_drew ?_))); (case side2 => exact HC247_0.out); rintro e w' ⟨rfl, ⟨nd, rfl⟩⟩; refine ⟨_, rfl, ?_⟩; have p249 : 0 ≤ (x5_1 : Int) := of_decide_eq_true (by first | (with_reducible assumption) | assumption); have q249 : x5_1 < (l0.length : Int) := of_decide_eq_true (by first | (with_reducible assumption) | assumption); obtain ⟨ad249, A249_0, c249_0, A249_1, c249_1, e249, hx249_0, hx249_1, hl249_0, hi249_0, hl249_1, hi249_1⟩ := at_T26 HR0.out x5_1 p249 q249; obtain rfl : ad247 = ad249 := (by injection e249); have HR249_0 := Aside0.mk hi249_0; have HC249_0 := Aside0.mk hl249_0; clear hi249_0 hl249_0; have HR249_1 := Aside0.mk hi249_1; have HC249_1 := Aside0.mk hl249_1; clear hi249_1 hl249_1; replace p249 := eq_true p249; replace q249 := eq_true q249; have ea_ := Option.some.inj (hx247_0.symm.trans hx249_0); injection ea_ with ea_ en_ ec_; subst ea_; subst ec_; clear en_; have ea_ := Option.some.inj (hx247_1.symm.trans hx249_1); injection ea_ with ea_ en_ ec_; subst ea_; subst ec_; clear en_) | ((with_reducible refine gate_callee (f := 68) rfl ?_); refine goesL_ (some 27) rfl rfl Try.func68 (by kernel_rfl) rfl #[.slice A247_1 ((rd_T26 l0 x5_1).f1).length c247_1, .int .i64 t248] rfl (by (try simp only [List.map_toArray, List.map_cons, List.map_nil]); first | done | rfl | (simp only [List.length_drop, List.length_take]; rfl)) ?_; (with_reducible refine (laws_heldIntS.calls k1 _ _ ((rd_T26 l0 x5_1).f1) t248 t250 _ ?side1 ?side2 A7.out).mono ?_); (case side1 => repeat (first | exact HR249_1.out | (with_reducible refine Kd.C_alloc ?_ _) | (with_reducible refine Kd.C_drewN ?_ _) | (with_reducible refine Kd.C_drew ?_))); (case side2 => exact HC249_1.out); rintro e w' ⟨rfl, ⟨nd, rfl⟩⟩; refine ⟨_, rfl, ?_⟩))
              go_roundg k1
              case measure => have := HK1.out; omega
              case rel => exact ⟨(t250), (wrap64 (x5_1 + 1)), (by first | rfl | (simp; done) | (simp [*]; done)), (by first | rfl | (simp; done) | (simp [*]; done)), H', ⟨by have := HK1.out; omega⟩, by repeat (first | exact Drawn0.refl _ | apply Drawn0.step)⟩
        · rw [if_neg c4] at H
          exact absurd H (by simp)
      · rw [if_neg c3] at H
        have c3b0 : decide (x5_1 < (l0.length : Int)) = false := decide_eq_false c3
        clear c3
        obtain rfl := Option.some.inj H
        go_wp2
        go_ret
        exact ⟨by first | rfl | (simp; done) | (simp [*]; done), by repeat (first | exact Drawn0.refl _ | apply Drawn0.step)⟩

/-! ### laws_FnExactStatesAlong: function 9 -/
/-- the blocks from lo on, below hi -/
def Iv (lo hi : Nat) : Nat → Prop := fun k => lo ≤ k ∧ k < hi
theorem Iv.apart {a b c d k : Nat} (h1 : Iv a b k) (h2 : Iv c d k) (h : b ≤ c ∨ d ≤ a) : False := by
  obtain ⟨p, q⟩ := h1
  obtain ⟨r, s⟩ := h2
  omega
theorem R_ivl {α : Type} {d : Kd α} {e b0 : Nat} {W W1 : World} {ok : Nat → Prop} {v : Value} {xs : List α} (h : d.R e W1 W.heap.size ok v xs) (hb : b0 ≤ W.heap.size) : d.R e W1 b0 (Iv W.heap.size W1.heap.size) v xs := Kd.R_lower (Kd.R_mono (Kd.R_bound h) (fun k hk => ⟨hk.2.1, hk.2.2.1⟩)) hb
theorem S_ivl {α : Type} {d : Kd α} {e b0 : Nat} {W W1 : World} {ok : Nat → Prop} {v : Value} {xs : List α} (h : Kd.S d e W1 W.heap.size ok v xs) (hb : b0 ≤ W.heap.size) : Kd.S d e W1 b0 (Iv W.heap.size W1.heap.size) v xs := Kd.S_lower (Kd.S_mono (Kd.S_bound h) (fun k hk => ⟨hk.2.1, hk.2.2.1⟩)) hb
theorem calls_len {P : Program} {f : FuncId} {A : Option Addr} {n n1 c : Nat} {x : Value} {w : World} {Q : Ending → World → Prop} (h : n = n1) (hc : Calls P f #[.slice A n1 c, x] w Q) : Calls P f #[.slice A n c, x] w Q := by rw [h]; exact hc
theorem drawn_below {w w' : World} (h : Drawn0 w w') : Below w.heap.size w w' := by
  obtain ⟨m, rfl⟩ := h
  exact pw_below_drewN (Below.refl _ _) m
theorem R_ivp {α : Type} {d : Kd α} {e b0 : Nat} {W W1 : World} {ok : Nat → Prop} {v : Value} {xs : List α} (h : d.R e W1 W.heap.size ok v xs) (hb : b0 ≤ W.heap.size) : d.R e W1 b0 (fun k => Iv W.heap.size W1.heap.size k ∧ ok k) v xs := Kd.R_lower (Kd.R_mono (Kd.R_bound h) (fun k hk => ⟨⟨hk.2.1, hk.2.2.1⟩, hk.1⟩)) hb
def laws_FnExactStatesAlong.f (k : Nat) (l0_0 : List Int) (l0_1 : List Int) (l1 : List S39) : Option Bool := (laws_szVessels.f l0_0 l0_1 1048576).bind fun z0 => if z0 < 0 then some true else (laws_szMoveS.f l1 z0).bind fun z1 => if z1 < 0 then some true else (laws_toVessels.f k l0_0 l0_1).bind fun x => (laws_toMoveS.f k l1).bind fun y => (spec_StatesAlong.f k x.1 x.2 y).bind fun wr => (impl_StatesAlong.f k x.1 x.2 y).bind fun gr => (laws_eqVesselsS.f k gr.1 wr.1).bind fun e => if e = true ∧ gr.2 = wr.2 then (laws_eqVessels.f k x.1 x.2 x.1 x.2).bind fun e0 => if e0 = true then (laws_eqMoveS.f k y y).bind fun e1 => if e1 = true then (laws_markVessels.f k x.1 x.2 1).bind fun m0 => (laws_markMoveS.f k y m0.1).bind fun m1 => if m1.1 < 0 then some false else (laws_markVesselsS.f k gr.1 1).bind fun mr => (laws_heldVesselsS.f k mr.2 1).bind fun q => if q < 0 then some false else if q = mr.1 then some true else some false else some false else some false else some false
set_option maxHeartbeats 8000000 in
set_option maxRecDepth 100000 in
theorem laws_FnExactStatesAlong.main (k : Nat) (A0_0 : Option Addr) (c0_0 : Nat) (l0_0 : List (Int)) (A0_1 : Option Addr) (c0_1 : Nat) (l0_1 : List (Int)) (A1 : Option Addr) (c1 : Nat) (l1 : List (S39)) (z0 z1 : Int) (xa xb ya yb : List Int) (y y1 : List S41) (n0 n1 m3 : Int) (wl gl gl' : List S26) (wb : Bool) (w : World) (hr0_0 : Kd.C (Kd.int .i64) w A0_0 l0_0.length l0_0) (hc0_0 : l0_0.length ≤ c0_0) (hr0_1 : Kd.C (Kd.int .i64) w A0_1 l0_1.length l0_1) (hc0_1 : l0_1.length ≤ c0_1) (hr1 : Kd.C k39 w A1 l1.length l1) (hc1 : l1.length ≤ c1) (A_sz0 : laws_szVessels.f l0_0 l0_1 1048576 = some z0) (hz0 : ¬ z0 < 0) (A_sz1 : laws_szMoveS.f l1 z0 = some z1) (hz1 : ¬ z1 < 0) (A_to0 : laws_toVessels.f k l0_0 l0_1 = some (xa, xb)) (A_to1 : laws_toMoveS.f k l1 = some y) (A_spec : spec_StatesAlong.f k xa xb y = some (wl, wb)) (A_impl : impl_StatesAlong.f k xa xb y = some (gl, wb)) (A_eqR : laws_eqVesselsS.f k gl wl = some true) (A_eq0 : laws_eqVessels.f k xa xb xa xb = some true) (A_eq1 : laws_eqMoveS.f k y y = some true) (A_mark0 : laws_markVessels.f k xa xb 1 = some (n0, ya, yb)) (A_mark1 : laws_markMoveS.f k y n0 = some (n1, y1)) (hm : ¬ n1 < 0) (A_markR : laws_markVesselsS.f k gl 1 = some (m3, gl')) (A_held : laws_heldVesselsS.f k gl' 1 = some m3) (hq : ¬ m3 < 0) :
    Calls Try.prog 9 #[.agg #[.slice A0_0 l0_0.length c0_0, .slice A0_1 l0_1.length c0_1], .slice A1 l1.length c1] w fun e w' => e = .returned (.bool true) ∧ Below w.heap.size w w' := by
  have hu24 := Try.underlying24
  have hu26 := Try.underlying26
  have HR0_0 := Aside0.mk hr0_0
  have HC0_0 := Aside0.mk hc0_0
  have HR0_1 := Aside0.mk hr0_1
  have HC0_1 := Aside0.mk hc0_1
  have HR1 := Aside0.mk hr1
  have HC1 := Aside0.mk hc1
  have HB := Aside0.mk (Below.refl w.heap.size w)
  have bz0 : decide (z0 < 0) = false := decide_eq_false hz0
  have bz1 : decide (z1 < 0) = false := decide_eq_false hz1
  have b2 : decide (n1 < 0) = false := decide_eq_false hm
  have b3 : decide (m3 < 0) = false := decide_eq_false hq
  have b4 : (wb != wb) = false := by simp
  have b5 : (m3 != m3) = false := by simp
  replace A_sz0 := Aside0.mk A_sz0
  replace A_sz1 := Aside0.mk A_sz1
  replace A_to0 := Aside0.mk A_to0
  replace A_to1 := Aside0.mk A_to1
  replace A_spec := Aside0.mk A_spec
  replace A_impl := Aside0.mk A_impl
  replace A_eqR := Aside0.mk A_eqR
  replace A_eq0 := Aside0.mk A_eq0
  replace A_eq1 := Aside0.mk A_eq1
  replace A_mark0 := Aside0.mk A_mark0
  replace A_mark1 := Aside0.mk A_mark1
  replace A_markR := Aside0.mk A_markR
  replace A_held := Aside0.mk A_held
  clear hr0_0 hc0_0 hr0_1 hc0_1 hr1 hc1 hm hq hz0 hz1
  go_enter Try.func9, Try.ntmps9
  go_upto_region 5 with (first | ((with_reducible refine gate_dst (N := 2) rfl ?_); refine box_event ?hg (N := 2) ?hd (cs := #[.slice A0_0 l0_0.length c0_0, .slice A0_1 l0_1.length c0_1]) (t := 24) ?hr ?_; (case hd => rfl); (case hg => rfl); (case hr => first | (go_simp; done) | (go_simp; rfl)); intro gb_T hg w1_ hbox hb; have BK_T := Aside0.mk hbox; have HG_T := Aside0.mk (show Iv w.heap.size w1_.heap.size gb_T from ⟨Nat.le_of_eq hg.symm, blk_lt hbox⟩); clear hbox hg; have HZ1 := Aside0.mk hb.size; replace HB := Aside0.mk (below_then HB.out HB.out.size hb); clear hb; (try clear hc_T_0); have hc_T_0 : w1_.cell? ⟨gb_T, 0, none⟩ = some (.slice A0_0 l0_0.length c0_0) := (blk_cell BK_T.out 0).trans rfl; (try clear hf_T_0); have hf_T_0 := blk_frozen BK_T.out 0; (try clear hc_T_1); have hc_T_1 : w1_.cell? ⟨gb_T, 1, none⟩ = some (.slice A0_1 l0_1.length c0_1) := (blk_cell BK_T.out 1).trans rfl; (try clear hf_T_1); have hf_T_1 := blk_frozen BK_T.out 1) | (go_at_call 15; refine (laws_szVessels.calls A0_0 c0_0 l0_0 A0_1 c0_1 l0_1 1048576 z0 _ (Kd.C_below HR0_0.out HB.out) HC0_0.out (Kd.C_below HR0_1.out HB.out) HC0_1.out A_sz0.out).mono ?_; rintro e_ w2_ ⟨rfl, hb⟩; replace BK_T := Aside0.mk (blk_below BK_T.out hb); have HZ2 := Aside0.mk hb.size; replace HB := Aside0.mk (below_then HB.out HB.out.size hb); clear hb; (try clear hc_T_0); have hc_T_0 : w2_.cell? ⟨gb_T, 0, none⟩ = some (.slice A0_0 l0_0.length c0_0) := (blk_cell BK_T.out 0).trans rfl; (try clear hf_T_0); have hf_T_0 := blk_frozen BK_T.out 0; (try clear hc_T_1); have hc_T_1 : w2_.cell? ⟨gb_T, 1, none⟩ = some (.slice A0_1 l0_1.length c0_1) := (blk_cell BK_T.out 1).trans rfl; (try clear hf_T_1); have hf_T_1 := blk_frozen BK_T.out 1))
  go_upto_region 8 with (first | (go_at_call 29; refine (laws_szMoveS.calls A1 c1 l1 z0 z1 _ (Kd.C_below HR1.out HB.out) HC1.out A_sz1.out).mono ?_; rintro e_ w3_ ⟨rfl, hd⟩; have hb := drawn_below hd; clear hd; replace BK_T := Aside0.mk (blk_below BK_T.out hb); have HZ3 := Aside0.mk hb.size; replace HB := Aside0.mk (below_then HB.out HB.out.size hb); clear hb; (try clear hc_T_0); have hc_T_0 : w3_.cell? ⟨gb_T, 0, none⟩ = some (.slice A0_0 l0_0.length c0_0) := (blk_cell BK_T.out 0).trans rfl; (try clear hf_T_0); have hf_T_0 := blk_frozen BK_T.out 0; (try clear hc_T_1); have hc_T_1 : w3_.cell? ⟨gb_T, 1, none⟩ = some (.slice A0_1 l0_1.length c0_1) := (blk_cell BK_T.out 1).trans rfl; (try clear hf_T_1); have hf_T_1 := blk_frozen BK_T.out 1))
  go_upto_region 9 with (first | (go_at_call 17; refine (laws_toVessels.calls k A0_0 c0_0 l0_0 A0_1 c0_1 l0_1 xa xb _ (Kd.C_below HR0_0.out HB.out) HC0_0.out (Kd.C_below HR0_1.out HB.out) HC0_1.out A_to0.out).mono ?_; rintro e_ w4_ ⟨v_X1a, v_X1b, rfl, ho0, ho1, hb⟩; replace BK_T := Aside0.mk (blk_below BK_T.out hb); obtain ⟨A_X1a, c_X1a, rfl⟩ := Kd.R_slice ho0; obtain ⟨A_X1b, c_X1b, rfl⟩ := Kd.R_slice ho1; have F_X1a := Aside0.mk (R_ivp ho0 HB.out.size); have F_X1b := Aside0.mk (R_ivp ho1 HB.out.size); clear ho0 ho1; have HZ4 := Aside0.mk hb.size; replace HB := Aside0.mk (below_then HB.out HB.out.size hb); clear hb; (try clear hc_T_0); have hc_T_0 : w4_.cell? ⟨gb_T, 0, none⟩ = some (.slice A0_0 l0_0.length c0_0) := (blk_cell BK_T.out 0).trans rfl; (try clear hf_T_0); have hf_T_0 := blk_frozen BK_T.out 0; (try clear hc_T_1); have hc_T_1 : w4_.cell? ⟨gb_T, 1, none⟩ = some (.slice A0_1 l0_1.length c0_1) := (blk_cell BK_T.out 1).trans rfl; (try clear hf_T_1); have hf_T_1 := blk_frozen BK_T.out 1) | (go_at_call 31; refine (laws_toMoveS.calls k A1 c1 l1 y _ (Kd.C_below HR1.out HB.out) HC1.out A_to1.out).mono ?_; rintro e_ w5_ ⟨v_Y1, rfl, ho, hb⟩; replace F_X1a := Aside0.mk (Kd.R_below F_X1a.out hb); replace F_X1b := Aside0.mk (Kd.R_below F_X1b.out hb); replace BK_T := Aside0.mk (blk_below BK_T.out hb); obtain ⟨A_Y1, c_Y1, rfl⟩ := Kd.R_slice ho; have F_Y1 := Aside0.mk (R_ivl ho HB.out.size); clear ho; have HZ5 := Aside0.mk hb.size; replace HB := Aside0.mk (below_then HB.out HB.out.size hb); clear hb; (try clear hc_T_0); have hc_T_0 : w5_.cell? ⟨gb_T, 0, none⟩ = some (.slice A0_0 l0_0.length c0_0) := (blk_cell BK_T.out 0).trans rfl; (try clear hf_T_0); have hf_T_0 := blk_frozen BK_T.out 0; (try clear hc_T_1); have hc_T_1 : w5_.cell? ⟨gb_T, 1, none⟩ = some (.slice A0_1 l0_1.length c0_1) := (blk_cell BK_T.out 1).trans rfl; (try clear hf_T_1); have hf_T_1 := blk_frozen BK_T.out 1) | (go_at_call 37; refine (spec_StatesAlong.calls k _ _ xa _ _ xb _ _ y wl wb _ ((Kd.R_reads' F_X1a.out).2.2) ((Kd.R_reads' F_X1a.out).2.1) ((Kd.R_reads' F_X1b.out).2.2) ((Kd.R_reads' F_X1b.out).2.1) ((Kd.R_reads' F_Y1.out).2.2) ((Kd.R_reads' F_Y1.out).2.1) A_spec.out).mono ?_; rintro e_ w6_ ⟨v_W1, rfl, ho, hb⟩; replace F_X1a := Aside0.mk (Kd.R_below F_X1a.out hb); replace F_X1b := Aside0.mk (Kd.R_below F_X1b.out hb); replace F_Y1 := Aside0.mk (Kd.R_below F_Y1.out hb); replace BK_T := Aside0.mk (blk_below BK_T.out hb); obtain ⟨A_W1, c_W1, rfl⟩ := Kd.S_slice ho; have F_W1 := Aside0.mk (S_ivl ho HB.out.size); clear ho; have HZ6 := Aside0.mk hb.size; replace HB := Aside0.mk (below_then HB.out HB.out.size hb); clear hb; (try clear hc_T_0); have hc_T_0 : w6_.cell? ⟨gb_T, 0, none⟩ = some (.slice A0_0 l0_0.length c0_0) := (blk_cell BK_T.out 0).trans rfl; (try clear hf_T_0); have hf_T_0 := blk_frozen BK_T.out 0; (try clear hc_T_1); have hc_T_1 : w6_.cell? ⟨gb_T, 1, none⟩ = some (.slice A0_1 l0_1.length c0_1) := (blk_cell BK_T.out 1).trans rfl; (try clear hf_T_1); have hf_T_1 := blk_frozen BK_T.out 1; clear F_X1a F_X1b F_Y1))
  go_upto_region 10 with (first | (go_at_call 17; refine (laws_toVessels.calls k A0_0 c0_0 l0_0 A0_1 c0_1 l0_1 xa xb _ (Kd.C_below HR0_0.out HB.out) HC0_0.out (Kd.C_below HR0_1.out HB.out) HC0_1.out A_to0.out).mono ?_; rintro e_ w7_ ⟨v_X2a, v_X2b, rfl, ho0, ho1, hb⟩; replace F_W1 := Aside0.mk (Kd.S_below F_W1.out hb); replace BK_T := Aside0.mk (blk_below BK_T.out hb); obtain ⟨A_X2a, c_X2a, rfl⟩ := Kd.R_slice ho0; obtain ⟨A_X2b, c_X2b, rfl⟩ := Kd.R_slice ho1; have F_X2a := Aside0.mk (R_ivp ho0 HB.out.size); have F_X2b := Aside0.mk (R_ivp ho1 HB.out.size); clear ho0 ho1; have HZ7 := Aside0.mk hb.size; replace HB := Aside0.mk (below_then HB.out HB.out.size hb); clear hb; (try clear hc_T_0); have hc_T_0 : w7_.cell? ⟨gb_T, 0, none⟩ = some (.slice A0_0 l0_0.length c0_0) := (blk_cell BK_T.out 0).trans rfl; (try clear hf_T_0); have hf_T_0 := blk_frozen BK_T.out 0; (try clear hc_T_1); have hc_T_1 : w7_.cell? ⟨gb_T, 1, none⟩ = some (.slice A0_1 l0_1.length c0_1) := (blk_cell BK_T.out 1).trans rfl; (try clear hf_T_1); have hf_T_1 := blk_frozen BK_T.out 1) | ((with_reducible refine gate_dst (N := 8) rfl ?_); refine box_event ?hg (N := 8) ?hd (cs := #[.slice none 0 0, .slice none 0 0]) (t := 26) ?hr ?_; (case hd => rfl); (case hg => rfl); (case hr => first | (go_simp; done) | (go_simp; rfl)); intro gb_V hg w8_ hbox hb; replace F_W1 := Aside0.mk (Kd.S_below F_W1.out hb); replace F_X2a := Aside0.mk (Kd.R_below F_X2a.out hb); replace F_X2b := Aside0.mk (Kd.R_below F_X2b.out hb); replace BK_T := Aside0.mk (blk_below BK_T.out hb); have BK_V := Aside0.mk hbox; have HG_V := Aside0.mk (show Iv w7_.heap.size w8_.heap.size gb_V from ⟨Nat.le_of_eq hg.symm, blk_lt hbox⟩); clear hbox hg; have HZ8 := Aside0.mk hb.size; replace HB := Aside0.mk (below_then HB.out HB.out.size hb); clear hb; (try clear hc_T_0); have hc_T_0 : w8_.cell? ⟨gb_T, 0, none⟩ = some (.slice A0_0 l0_0.length c0_0) := (blk_cell BK_T.out 0).trans rfl; (try clear hf_T_0); have hf_T_0 := blk_frozen BK_T.out 0; (try clear hc_T_1); have hc_T_1 : w8_.cell? ⟨gb_T, 1, none⟩ = some (.slice A0_1 l0_1.length c0_1) := (blk_cell BK_T.out 1).trans rfl; (try clear hf_T_1); have hf_T_1 := blk_frozen BK_T.out 1; (try clear hc_V_0); have hc_V_0 : w8_.cell? ⟨gb_V, 0, none⟩ = some (.slice none 0 0) := (blk_cell BK_V.out 0).trans rfl; (try clear hf_V_0); have hf_V_0 := blk_frozen BK_V.out 0; (try clear hc_V_1); have hc_V_1 : w8_.cell? ⟨gb_V, 1, none⟩ = some (.slice none 0 0) := (blk_cell BK_V.out 1).trans rfl; (try clear hf_V_1); have hf_V_1 := blk_frozen BK_V.out 1))
  have hK : Kept w8_ ((w8_.setCell ⟨gb_V, 0, none⟩ (.slice A_X2a xa.length c_X2a)).setCell ⟨gb_V, 1, none⟩ (.slice A_X2b xb.length c_X2b)) (fun k_ => k_ = gb_V) := Kept.setCell (p := ⟨gb_V, 1, none⟩) (Kept.setCell (p := ⟨gb_V, 0, none⟩) (Kept.refl w8_ (fun k_ => k_ = gb_V)) (Or.inl rfl) (.slice A_X2a xa.length c_X2a)) (Or.inl rfl) (.slice A_X2b xb.length c_X2b)
  have HZ9 := Aside0.mk hK.1
  replace F_W1 := Aside0.mk (Kd.S_kept F_W1.out hK (fun k_ h1_ e_ => h1_.apart (c := w7_.heap.size) (d := w8_.heap.size) (by rw [e_]; exact HG_V.out) (by have z1_ := HZ1.out; have z2_ := HZ2.out; have z3_ := HZ3.out; have z4_ := HZ4.out; have z5_ := HZ5.out; have z6_ := HZ6.out; have z7_ := HZ7.out; have z8_ := HZ8.out; have z9_ := HZ9.out; omega)))
  replace F_X2a := Aside0.mk (Kd.R_kept F_X2a.out hK (fun k_ h1_ e_ => h1_.1.apart (c := w7_.heap.size) (d := w8_.heap.size) (by rw [e_]; exact HG_V.out) (by have z1_ := HZ1.out; have z2_ := HZ2.out; have z3_ := HZ3.out; have z4_ := HZ4.out; have z5_ := HZ5.out; have z6_ := HZ6.out; have z7_ := HZ7.out; have z8_ := HZ8.out; have z9_ := HZ9.out; omega)))
  replace F_X2b := Aside0.mk (Kd.R_kept F_X2b.out hK (fun k_ h1_ e_ => h1_.1.apart (c := w7_.heap.size) (d := w8_.heap.size) (by rw [e_]; exact HG_V.out) (by have z1_ := HZ1.out; have z2_ := HZ2.out; have z3_ := HZ3.out; have z4_ := HZ4.out; have z5_ := HZ5.out; have z6_ := HZ6.out; have z7_ := HZ7.out; have z8_ := HZ8.out; have z9_ := HZ9.out; omega)))
  replace BK_T := Aside0.mk (blk_kept BK_T.out hK (fun e_ => HG_T.out.apart (c := w7_.heap.size) (d := w8_.heap.size) (by rw [e_]; exact HG_V.out) (by have z1_ := HZ1.out; have z2_ := HZ2.out; have z3_ := HZ3.out; have z4_ := HZ4.out; have z5_ := HZ5.out; have z6_ := HZ6.out; have z7_ := HZ7.out; have z8_ := HZ8.out; have z9_ := HZ9.out; omega)))
  replace BK_V := Aside0.mk (show ((w8_.setCell ⟨gb_V, 0, none⟩ (.slice A_X2a xa.length c_X2a)).setCell ⟨gb_V, 1, none⟩ (.slice A_X2b xb.length c_X2b)).heap[gb_V]? = some (.cells #[.slice A_X2a xa.length c_X2a, .slice A_X2b xb.length c_X2b] 26 (0, 0)) from blk_put (cs := #[.slice A_X2a xa.length c_X2a, .slice none 0 0]) (blk_put (cs := #[.slice none 0 0, .slice none 0 0]) BK_V.out 0 _ rfl) 1 _ rfl)
  replace HB := Aside0.mk (show Below w.heap.size w ((w8_.setCell ⟨gb_V, 0, none⟩ (.slice A_X2a xa.length c_X2a)).setCell ⟨gb_V, 1, none⟩ (.slice A_X2b xb.length c_X2b)) from below_set (below_set HB.out (by have z1_ := HZ1.out; have z2_ := HZ2.out; have z3_ := HZ3.out; have z4_ := HZ4.out; have z5_ := HZ5.out; have z6_ := HZ6.out; have z7_ := HZ7.out; have z8_ := HZ8.out; have h_ := HG_V.out.1; have h2_ := HB.out.size; omega)) (by have z1_ := HZ1.out; have z2_ := HZ2.out; have z3_ := HZ3.out; have z4_ := HZ4.out; have z5_ := HZ5.out; have z6_ := HZ6.out; have z7_ := HZ7.out; have z8_ := HZ8.out; have h_ := HG_V.out.1; have h2_ := HB.out.size; omega))
  clear hK
  (try clear hc_T_0); (try clear hf_T_0); (try clear hc_T_1); (try clear hf_T_1)
  (try clear hc_V_0); (try clear hf_V_0); (try clear hc_V_1); (try clear hf_V_1)
  generalize ((w8_.setCell ⟨gb_V, 0, none⟩ (.slice A_X2a xa.length c_X2a)).setCell ⟨gb_V, 1, none⟩ (.slice A_X2b xb.length c_X2b)) = w9_ at HZ9 F_W1 F_X2a F_X2b BK_T BK_V HB ⊢
  (try clear hc_T_0)
  have hc_T_0 : w9_.cell? ⟨gb_T, 0, none⟩ = some (.slice A0_0 l0_0.length c0_0) := (blk_cell BK_T.out 0).trans rfl
  (try clear hf_T_0)
  have hf_T_0 := blk_frozen BK_T.out 0
  (try clear hc_T_1)
  have hc_T_1 : w9_.cell? ⟨gb_T, 1, none⟩ = some (.slice A0_1 l0_1.length c0_1) := (blk_cell BK_T.out 1).trans rfl
  (try clear hf_T_1)
  have hf_T_1 := blk_frozen BK_T.out 1
  (try clear hc_V_0)
  have hc_V_0 : w9_.cell? ⟨gb_V, 0, none⟩ = some (.slice A_X2a xa.length c_X2a) := (blk_cell BK_V.out 0).trans rfl
  (try clear hf_V_0)
  have hf_V_0 := blk_frozen BK_V.out 0
  (try clear hc_V_1)
  have hc_V_1 : w9_.cell? ⟨gb_V, 1, none⟩ = some (.slice A_X2b xb.length c_X2b) := (blk_cell BK_V.out 1).trans rfl
  (try clear hf_V_1)
  have hf_V_1 := blk_frozen BK_V.out 1
  go_upto_region 11 with (first | (go_at_call 31; refine (laws_toMoveS.calls k A1 c1 l1 y _ (Kd.C_below HR1.out HB.out) HC1.out A_to1.out).mono ?_; rintro e_ w10_ ⟨v_Y2, rfl, ho, hb⟩; replace F_W1 := Aside0.mk (Kd.S_below F_W1.out hb); replace F_X2a := Aside0.mk (Kd.R_below F_X2a.out hb); replace F_X2b := Aside0.mk (Kd.R_below F_X2b.out hb); replace BK_T := Aside0.mk (blk_below BK_T.out hb); replace BK_V := Aside0.mk (blk_below BK_V.out hb); obtain ⟨A_Y2, c_Y2, rfl⟩ := Kd.R_slice ho; have F_Y2 := Aside0.mk (R_ivl ho HB.out.size); clear ho; have HZ10 := Aside0.mk hb.size; replace HB := Aside0.mk (below_then HB.out HB.out.size hb); clear hb; (try clear hc_T_0); have hc_T_0 : w10_.cell? ⟨gb_T, 0, none⟩ = some (.slice A0_0 l0_0.length c0_0) := (blk_cell BK_T.out 0).trans rfl; (try clear hf_T_0); have hf_T_0 := blk_frozen BK_T.out 0; (try clear hc_T_1); have hc_T_1 : w10_.cell? ⟨gb_T, 1, none⟩ = some (.slice A0_1 l0_1.length c0_1) := (blk_cell BK_T.out 1).trans rfl; (try clear hf_T_1); have hf_T_1 := blk_frozen BK_T.out 1; (try clear hc_V_0); have hc_V_0 : w10_.cell? ⟨gb_V, 0, none⟩ = some (.slice A_X2a xa.length c_X2a) := (blk_cell BK_V.out 0).trans rfl; (try clear hf_V_0); have hf_V_0 := blk_frozen BK_V.out 0; (try clear hc_V_1); have hc_V_1 : w10_.cell? ⟨gb_V, 1, none⟩ = some (.slice A_X2b xb.length c_X2b) := (blk_cell BK_V.out 1).trans rfl; (try clear hf_V_1); have hf_V_1 := blk_frozen BK_V.out 1))
  go_upto_region 12 with (first | (go_at_call 38; refine (impl_StatesAlong.calls k _ _ xa _ _ xb _ _ y gl wb _ ((Kd.R_reads' F_X2a.out).2.2) ((Kd.R_reads' F_X2a.out).2.1) ((Kd.R_reads' F_X2b.out).2.2) ((Kd.R_reads' F_X2b.out).2.1) ((Kd.R_reads' F_Y2.out).2.2) ((Kd.R_reads' F_Y2.out).2.1) A_impl.out).mono ?_; rintro e_ w11_ ⟨v_G, rfl, ho, hb⟩; replace F_W1 := Aside0.mk (Kd.S_below F_W1.out hb); replace F_X2a := Aside0.mk (Kd.R_below F_X2a.out hb); replace F_X2b := Aside0.mk (Kd.R_below F_X2b.out hb); replace F_Y2 := Aside0.mk (Kd.R_below F_Y2.out hb); replace BK_T := Aside0.mk (blk_below BK_T.out hb); replace BK_V := Aside0.mk (blk_below BK_V.out hb); obtain ⟨A_G, c_G, rfl⟩ := Kd.S_slice ho; have F_G := Aside0.mk (S_ivl ho HB.out.size); clear ho; have HZ11 := Aside0.mk hb.size; replace HB := Aside0.mk (below_then HB.out HB.out.size hb); clear hb; (try clear hc_T_0); have hc_T_0 : w11_.cell? ⟨gb_T, 0, none⟩ = some (.slice A0_0 l0_0.length c0_0) := (blk_cell BK_T.out 0).trans rfl; (try clear hf_T_0); have hf_T_0 := blk_frozen BK_T.out 0; (try clear hc_T_1); have hc_T_1 : w11_.cell? ⟨gb_T, 1, none⟩ = some (.slice A0_1 l0_1.length c0_1) := (blk_cell BK_T.out 1).trans rfl; (try clear hf_T_1); have hf_T_1 := blk_frozen BK_T.out 1; (try clear hc_V_0); have hc_V_0 : w11_.cell? ⟨gb_V, 0, none⟩ = some (.slice A_X2a xa.length c_X2a) := (blk_cell BK_V.out 0).trans rfl; (try clear hf_V_0); have hf_V_0 := blk_frozen BK_V.out 0; (try clear hc_V_1); have hc_V_1 : w11_.cell? ⟨gb_V, 1, none⟩ = some (.slice A_X2b xb.length c_X2b) := (blk_cell BK_V.out 1).trans rfl; (try clear hf_V_1); have hf_V_1 := blk_frozen BK_V.out 1))
  go_upto_region 14 with (first | (go_at_call 39; refine (laws_eqVesselsS.calls k _ _ gl _ _ wl true _ ((Kd.S_reads' F_G.out).2.2) ((Kd.S_reads' F_G.out).2.1) ((Kd.S_reads' F_W1.out).2.2) ((Kd.S_reads' F_W1.out).2.1) A_eqR.out).mono ?_; rintro e_ w12_ ⟨rfl, hb⟩; replace F_W1 := Aside0.mk (Kd.S_below F_W1.out hb); replace F_X2a := Aside0.mk (Kd.R_below F_X2a.out hb); replace F_X2b := Aside0.mk (Kd.R_below F_X2b.out hb); replace F_Y2 := Aside0.mk (Kd.R_below F_Y2.out hb); replace F_G := Aside0.mk (Kd.S_below F_G.out hb); replace BK_T := Aside0.mk (blk_below BK_T.out hb); replace BK_V := Aside0.mk (blk_below BK_V.out hb); have HZ12 := Aside0.mk hb.size; replace HB := Aside0.mk (below_then HB.out HB.out.size hb); clear hb; (try clear hc_T_0); have hc_T_0 : w12_.cell? ⟨gb_T, 0, none⟩ = some (.slice A0_0 l0_0.length c0_0) := (blk_cell BK_T.out 0).trans rfl; (try clear hf_T_0); have hf_T_0 := blk_frozen BK_T.out 0; (try clear hc_T_1); have hc_T_1 : w12_.cell? ⟨gb_T, 1, none⟩ = some (.slice A0_1 l0_1.length c0_1) := (blk_cell BK_T.out 1).trans rfl; (try clear hf_T_1); have hf_T_1 := blk_frozen BK_T.out 1; (try clear hc_V_0); have hc_V_0 : w12_.cell? ⟨gb_V, 0, none⟩ = some (.slice A_X2a xa.length c_X2a) := (blk_cell BK_V.out 0).trans rfl; (try clear hf_V_0); have hf_V_0 := blk_frozen BK_V.out 0; (try clear hc_V_1); have hc_V_1 : w12_.cell? ⟨gb_V, 1, none⟩ = some (.slice A_X2b xb.length c_X2b) := (blk_cell BK_V.out 1).trans rfl; (try clear hf_V_1); have hf_V_1 := blk_frozen BK_V.out 1))
  replace F_W1 := Aside0.mk (Kd.S_drew F_W1.out)
  replace F_X2a := Aside0.mk (Kd.R_drew F_X2a.out)
  replace F_X2b := Aside0.mk (Kd.R_drew F_X2b.out)
  replace F_Y2 := Aside0.mk (Kd.R_drew F_Y2.out)
  replace F_G := Aside0.mk (Kd.S_drew F_G.out)
  replace BK_T := Aside0.mk (blk_drew BK_T.out)
  replace BK_V := Aside0.mk (blk_drew BK_V.out)
  replace HB := Aside0.mk (below_drew1 HB.out)
  have HZ13 : Aside0 (w12_.heap.size ≤ w12_.drew.heap.size) := ⟨Nat.le_refl _⟩
  refine start_ (n := 5) (S := fun w' => w'.cell? ⟨gb_V, 0, none⟩ = some (.slice A_X2a xa.length c_X2a) ∧ w'.cell? ⟨gb_V, 1, none⟩ = some (.slice A_X2b xb.length c_X2b) ∧ w'.cell? ⟨gb_T, 0, none⟩ = some (.slice A0_0 l0_0.length c0_0) ∧ w'.cell? ⟨gb_T, 1, none⟩ = some (.slice A0_1 l0_1.length c0_1)) (ds := []) #[false, false, false, false, false] (by kernel_rfl) rfl rfl ⟨(blk_cell BK_V.out 0).trans rfl, (blk_cell BK_V.out 1).trans rfl, (blk_cell BK_T.out 0).trans rfl, (blk_cell BK_T.out 1).trans rfl⟩ (fun hHeld => ?_)
  generalize w12_.drew = wd13_ at F_W1 F_X2a F_X2b F_Y2 F_G BK_T BK_V HB HZ13 hHeld ⊢
  (try clear hc_T_0); (try clear hc_T_1); (try clear hf_T_0); (try clear hf_T_1)
  (try clear hc_V_0); (try clear hc_V_1); (try clear hf_V_0); (try clear hf_V_1)
  refine take_ (i := 0) (N := some 54) (v := ?_) (a' := ?_) #[true, false, false, false, false] rfl rfl (by kernel_rfl) (fun _ _ _ h => h) (Or.inl ⟨by rfl, ?_⟩) hHeld ?_ ?_
  rotate_left
  · rintro w' ⟨s0, s1, s2, s3⟩
    go_simp
    with_reducible rfl
  rotate_left
  · simp only [Act.put, List.setIfInBounds_toArray, List.set_cons_zero, List.set_cons_succ, i64_w, i32_w]
    rfl
  refine take_ (i := 1) (N := some 55) (v := ?_) (a' := ?_) #[true, true, false, false, false] rfl rfl (by kernel_rfl) (fun _ _ _ h => h) (Or.inl ⟨by rfl, ?_⟩) hHeld ?_ ?_
  rotate_left
  · rintro w' ⟨s0, s1, s2, s3⟩
    go_simp
    with_reducible rfl
  rotate_left
  · simp only [Act.put, List.setIfInBounds_toArray, List.set_cons_zero, List.set_cons_succ, i64_w, i32_w]
    rfl
  refine one_ (i := 2) (N := some 56) #[true, true, true, false, false] rfl rfl (by kernel_rfl) (by decide) (fun K hK => ?_)
  refine goes_ Try.func17 (by kernel_rfl) rfl #[.agg #[.slice A0_0 l0_0.length c0_0, .slice A0_1 l0_1.length c0_1]] (by rfl) rfl rfl (by (try simp only [List.map_toArray, List.map_cons, List.map_nil]); first | done | rfl) ?_
  refine (laws_toVessels.calls k A0_0 c0_0 l0_0 A0_1 c0_1 l0_1 xa xb _ (Kd.C_below HR0_0.out HB.out) HC0_0.out (Kd.C_below HR0_1.out HB.out) HC0_1.out A_to0.out).mono ?_
  rintro e_ w14_ ⟨v_X3a, v_X3b, rfl, ho0, ho1, hb⟩
  refine ⟨_, rfl, ?_⟩
  replace F_W1 := Aside0.mk (Kd.S_below F_W1.out hb); replace F_X2a := Aside0.mk (Kd.R_below F_X2a.out hb); replace F_X2b := Aside0.mk (Kd.R_below F_X2b.out hb); replace F_Y2 := Aside0.mk (Kd.R_below F_Y2.out hb); replace F_G := Aside0.mk (Kd.S_below F_G.out hb); replace BK_T := Aside0.mk (blk_below BK_T.out hb); replace BK_V := Aside0.mk (blk_below BK_V.out hb); obtain ⟨A_X3a, c_X3a, rfl⟩ := Kd.R_slice ho0; obtain ⟨A_X3b, c_X3b, rfl⟩ := Kd.R_slice ho1; have F_X3a := Aside0.mk (R_ivp ho0 HB.out.size); have F_X3b := Aside0.mk (R_ivp ho1 HB.out.size); clear ho0 ho1; have HZ14 := Aside0.mk hb.size; replace HB := Aside0.mk (below_then HB.out HB.out.size hb); clear hb; (try clear hc_T_0); have hc_T_0 : w14_.cell? ⟨gb_T, 0, none⟩ = some (.slice A0_0 l0_0.length c0_0) := (blk_cell BK_T.out 0).trans rfl; (try clear hf_T_0); have hf_T_0 := blk_frozen BK_T.out 0; (try clear hc_T_1); have hc_T_1 : w14_.cell? ⟨gb_T, 1, none⟩ = some (.slice A0_1 l0_1.length c0_1) := (blk_cell BK_T.out 1).trans rfl; (try clear hf_T_1); have hf_T_1 := blk_frozen BK_T.out 1; (try clear hc_V_0); have hc_V_0 : w14_.cell? ⟨gb_V, 0, none⟩ = some (.slice A_X2a xa.length c_X2a) := (blk_cell BK_V.out 0).trans rfl; (try clear hf_V_0); have hf_V_0 := blk_frozen BK_V.out 0; (try clear hc_V_1); have hc_V_1 : w14_.cell? ⟨gb_V, 1, none⟩ = some (.slice A_X2b xb.length c_X2b) := (blk_cell BK_V.out 1).trans rfl; (try clear hf_V_1); have hf_V_1 := blk_frozen BK_V.out 1
  refine hK.out _ _ ⟨(blk_cell BK_V.out 0).trans rfl, (blk_cell BK_V.out 1).trans rfl, (blk_cell BK_T.out 0).trans rfl, (blk_cell BK_T.out 1).trans rfl⟩ (fun hHeld => ?_)
  clear hK K
  refine norm_ (a' := ?_) ?_ ?_
  rotate_left
  · show Act.put _ (some 56) _ = _
    simp only [Act.put, List.setIfInBounds_toArray, List.set_cons_zero, List.set_cons_succ, i64_w, i32_w]
    rfl
  refine one_ (i := 3) (N := some 57) #[true, true, true, true, false] rfl rfl (by kernel_rfl) (by decide) (fun K hK => ?_)
  refine goes_ Try.func19 (by kernel_rfl) rfl #[.agg #[.slice A_X2a xa.length c_X2a, .slice A_X2b xb.length c_X2b], .agg #[.slice A_X3a xa.length c_X3a, .slice A_X3b xb.length c_X3b]] (by rfl) rfl rfl (by (try simp only [List.map_toArray, List.map_cons, List.map_nil]); first | done | rfl) ?_
  refine (laws_eqVessels.calls k _ _ xa _ _ xb _ _ xa _ _ xb true _ ((Kd.R_reads' F_X2a.out).2.2) ((Kd.R_reads' F_X2a.out).2.1) ((Kd.R_reads' F_X2b.out).2.2) ((Kd.R_reads' F_X2b.out).2.1) ((Kd.R_reads' F_X3a.out).2.2) ((Kd.R_reads' F_X3a.out).2.1) ((Kd.R_reads' F_X3b.out).2.2) ((Kd.R_reads' F_X3b.out).2.1) A_eq0.out).mono ?_
  rintro e_ w15_ ⟨rfl, hb⟩
  refine ⟨_, rfl, ?_⟩
  replace F_W1 := Aside0.mk (Kd.S_below F_W1.out hb); replace F_X2a := Aside0.mk (Kd.R_below F_X2a.out hb); replace F_X2b := Aside0.mk (Kd.R_below F_X2b.out hb); replace F_Y2 := Aside0.mk (Kd.R_below F_Y2.out hb); replace F_G := Aside0.mk (Kd.S_below F_G.out hb); replace F_X3a := Aside0.mk (Kd.R_below F_X3a.out hb); replace F_X3b := Aside0.mk (Kd.R_below F_X3b.out hb); replace BK_T := Aside0.mk (blk_below BK_T.out hb); replace BK_V := Aside0.mk (blk_below BK_V.out hb); have HZ15 := Aside0.mk hb.size; replace HB := Aside0.mk (below_then HB.out HB.out.size hb); clear hb; (try clear hc_T_0); have hc_T_0 : w15_.cell? ⟨gb_T, 0, none⟩ = some (.slice A0_0 l0_0.length c0_0) := (blk_cell BK_T.out 0).trans rfl; (try clear hf_T_0); have hf_T_0 := blk_frozen BK_T.out 0; (try clear hc_T_1); have hc_T_1 : w15_.cell? ⟨gb_T, 1, none⟩ = some (.slice A0_1 l0_1.length c0_1) := (blk_cell BK_T.out 1).trans rfl; (try clear hf_T_1); have hf_T_1 := blk_frozen BK_T.out 1; (try clear hc_V_0); have hc_V_0 : w15_.cell? ⟨gb_V, 0, none⟩ = some (.slice A_X2a xa.length c_X2a) := (blk_cell BK_V.out 0).trans rfl; (try clear hf_V_0); have hf_V_0 := blk_frozen BK_V.out 0; (try clear hc_V_1); have hc_V_1 : w15_.cell? ⟨gb_V, 1, none⟩ = some (.slice A_X2b xb.length c_X2b) := (blk_cell BK_V.out 1).trans rfl; (try clear hf_V_1); have hf_V_1 := blk_frozen BK_V.out 1; clear F_X3a F_X3b
  refine hK.out _ _ ⟨(blk_cell BK_V.out 0).trans rfl, (blk_cell BK_V.out 1).trans rfl, (blk_cell BK_T.out 0).trans rfl, (blk_cell BK_T.out 1).trans rfl⟩ (fun hHeld => ?_)
  clear hK K
  refine norm_ (a' := ?_) ?_ ?_
  rotate_left
  · show Act.put _ (some 57) _ = _
    simp only [Act.put, List.setIfInBounds_toArray, List.set_cons_zero, List.set_cons_succ, i64_w, i32_w]
    rfl
  refine pure_ (i := 4) (N := some 58) (v := ?_) (a' := ?_) #[true, true, true, true, true] rfl rfl (by kernel_rfl) (fun _ _ _ h => h) (Or.inl ⟨by rfl, ?_⟩) ?_ ?_
  rotate_left
  · intro w'
    go_simp
    with_reducible rfl
  rotate_left
  · simp only [Act.put, List.setIfInBounds_toArray, List.set_cons_zero, List.set_cons_succ, i64_w, i32_w]
    rfl
  refine done_ (by kernel_rfl) ?_
  go_upto_region 19 with (first | (go_at_call 31; refine (laws_toMoveS.calls k A1 c1 l1 y _ (Kd.C_below HR1.out HB.out) HC1.out A_to1.out).mono ?_; rintro e_ w16_ ⟨v_Y3, rfl, ho, hb⟩; replace F_W1 := Aside0.mk (Kd.S_below F_W1.out hb); replace F_X2a := Aside0.mk (Kd.R_below F_X2a.out hb); replace F_X2b := Aside0.mk (Kd.R_below F_X2b.out hb); replace F_Y2 := Aside0.mk (Kd.R_below F_Y2.out hb); replace F_G := Aside0.mk (Kd.S_below F_G.out hb); replace BK_T := Aside0.mk (blk_below BK_T.out hb); replace BK_V := Aside0.mk (blk_below BK_V.out hb); obtain ⟨A_Y3, c_Y3, rfl⟩ := Kd.R_slice ho; have F_Y3 := Aside0.mk (R_ivl ho HB.out.size); clear ho; have HZ16 := Aside0.mk hb.size; replace HB := Aside0.mk (below_then HB.out HB.out.size hb); clear hb; (try clear hc_T_0); have hc_T_0 : w16_.cell? ⟨gb_T, 0, none⟩ = some (.slice A0_0 l0_0.length c0_0) := (blk_cell BK_T.out 0).trans rfl; (try clear hf_T_0); have hf_T_0 := blk_frozen BK_T.out 0; (try clear hc_T_1); have hc_T_1 : w16_.cell? ⟨gb_T, 1, none⟩ = some (.slice A0_1 l0_1.length c0_1) := (blk_cell BK_T.out 1).trans rfl; (try clear hf_T_1); have hf_T_1 := blk_frozen BK_T.out 1; (try clear hc_V_0); have hc_V_0 : w16_.cell? ⟨gb_V, 0, none⟩ = some (.slice A_X2a xa.length c_X2a) := (blk_cell BK_V.out 0).trans rfl; (try clear hf_V_0); have hf_V_0 := blk_frozen BK_V.out 0; (try clear hc_V_1); have hc_V_1 : w16_.cell? ⟨gb_V, 1, none⟩ = some (.slice A_X2b xb.length c_X2b) := (blk_cell BK_V.out 1).trans rfl; (try clear hf_V_1); have hf_V_1 := blk_frozen BK_V.out 1) | (go_at_call 33; refine (laws_eqMoveS.calls k _ _ y _ _ y true _ ((Kd.R_reads' F_Y2.out).2.2) ((Kd.R_reads' F_Y2.out).2.1) ((Kd.R_reads' F_Y3.out).2.2) ((Kd.R_reads' F_Y3.out).2.1) A_eq1.out).mono ?_; rintro e_ w17_ ⟨rfl, hb⟩; replace F_W1 := Aside0.mk (Kd.S_below F_W1.out hb); replace F_X2a := Aside0.mk (Kd.R_below F_X2a.out hb); replace F_X2b := Aside0.mk (Kd.R_below F_X2b.out hb); replace F_Y2 := Aside0.mk (Kd.R_below F_Y2.out hb); replace F_G := Aside0.mk (Kd.S_below F_G.out hb); replace F_Y3 := Aside0.mk (Kd.R_below F_Y3.out hb); replace BK_T := Aside0.mk (blk_below BK_T.out hb); replace BK_V := Aside0.mk (blk_below BK_V.out hb); have HZ17 := Aside0.mk hb.size; replace HB := Aside0.mk (below_then HB.out HB.out.size hb); clear hb; (try clear hc_T_0); have hc_T_0 : w17_.cell? ⟨gb_T, 0, none⟩ = some (.slice A0_0 l0_0.length c0_0) := (blk_cell BK_T.out 0).trans rfl; (try clear hf_T_0); have hf_T_0 := blk_frozen BK_T.out 0; (try clear hc_T_1); have hc_T_1 : w17_.cell? ⟨gb_T, 1, none⟩ = some (.slice A0_1 l0_1.length c0_1) := (blk_cell BK_T.out 1).trans rfl; (try clear hf_T_1); have hf_T_1 := blk_frozen BK_T.out 1; (try clear hc_V_0); have hc_V_0 : w17_.cell? ⟨gb_V, 0, none⟩ = some (.slice A_X2a xa.length c_X2a) := (blk_cell BK_V.out 0).trans rfl; (try clear hf_V_0); have hf_V_0 := blk_frozen BK_V.out 0; (try clear hc_V_1); have hc_V_1 : w17_.cell? ⟨gb_V, 1, none⟩ = some (.slice A_X2b xb.length c_X2b) := (blk_cell BK_V.out 1).trans rfl; (try clear hf_V_1); have hf_V_1 := blk_frozen BK_V.out 1; clear F_Y3))
  go_upto_region 20 with (first | (go_at_call 20; refine (laws_markVessels.calls k (fun k_ => some k_ = (.slice A_X2a xa.length c_X2a : Value).ownBlock) _ xa (fun k_ => some k_ = (.slice A_X2b xb.length c_X2b : Value).ownBlock) _ xb 1 n0 ya yb w _ HB.out (Kd.R_tight rfl F_X2a.out) (fun k_ h_ h2_ => (F_X2a.out.1 k_ h_.symm).2 h2_) (Kd.R_tight rfl F_X2b.out) (fun k_ h_ h2_ => (F_X2b.out.1 k_ h_.symm).2 h2_) A_mark0.out).mono ?_; rintro e_ w18_ ⟨rfl, ho0, ho1, hB, hK⟩; replace hK := hK.mono (S' := Iv w6_.heap.size w7_.heap.size) (fun k_ h_ => h_.elim (fun e_ => (F_X2a.out.1 k_ e_.symm).1) (fun e_ => (F_X2b.out.1 k_ e_.symm).1)); have HZ18 := Aside0.mk hK.1; replace F_W1 := Aside0.mk (Kd.S_kept F_W1.out hK (fun k_ h1_ h2_ => h1_.apart h2_ (by have z1_ := HZ1.out; have z2_ := HZ2.out; have z3_ := HZ3.out; have z4_ := HZ4.out; have z5_ := HZ5.out; have z6_ := HZ6.out; have z7_ := HZ7.out; have z8_ := HZ8.out; have z9_ := HZ9.out; have z10_ := HZ10.out; have z11_ := HZ11.out; have z12_ := HZ12.out; have z13_ := HZ13.out; have z14_ := HZ14.out; have z15_ := HZ15.out; have z16_ := HZ16.out; have z17_ := HZ17.out; have z18_ := HZ18.out; omega))); replace F_Y2 := Aside0.mk (Kd.R_kept F_Y2.out hK (fun k_ h1_ h2_ => h1_.apart h2_ (by have z1_ := HZ1.out; have z2_ := HZ2.out; have z3_ := HZ3.out; have z4_ := HZ4.out; have z5_ := HZ5.out; have z6_ := HZ6.out; have z7_ := HZ7.out; have z8_ := HZ8.out; have z9_ := HZ9.out; have z10_ := HZ10.out; have z11_ := HZ11.out; have z12_ := HZ12.out; have z13_ := HZ13.out; have z14_ := HZ14.out; have z15_ := HZ15.out; have z16_ := HZ16.out; have z17_ := HZ17.out; have z18_ := HZ18.out; omega))); replace F_G := Aside0.mk (Kd.S_kept F_G.out hK (fun k_ h1_ h2_ => h1_.apart h2_ (by have z1_ := HZ1.out; have z2_ := HZ2.out; have z3_ := HZ3.out; have z4_ := HZ4.out; have z5_ := HZ5.out; have z6_ := HZ6.out; have z7_ := HZ7.out; have z8_ := HZ8.out; have z9_ := HZ9.out; have z10_ := HZ10.out; have z11_ := HZ11.out; have z12_ := HZ12.out; have z13_ := HZ13.out; have z14_ := HZ14.out; have z15_ := HZ15.out; have z16_ := HZ16.out; have z17_ := HZ17.out; have z18_ := HZ18.out; omega))); replace BK_T := Aside0.mk (blk_kept BK_T.out hK (fun h2_ => HG_T.out.apart h2_ (by have z1_ := HZ1.out; have z2_ := HZ2.out; have z3_ := HZ3.out; have z4_ := HZ4.out; have z5_ := HZ5.out; have z6_ := HZ6.out; have z7_ := HZ7.out; have z8_ := HZ8.out; have z9_ := HZ9.out; have z10_ := HZ10.out; have z11_ := HZ11.out; have z12_ := HZ12.out; have z13_ := HZ13.out; have z14_ := HZ14.out; have z15_ := HZ15.out; have z16_ := HZ16.out; have z17_ := HZ17.out; have z18_ := HZ18.out; omega))); replace BK_V := Aside0.mk (blk_kept BK_V.out hK (fun h2_ => HG_V.out.apart h2_ (by have z1_ := HZ1.out; have z2_ := HZ2.out; have z3_ := HZ3.out; have z4_ := HZ4.out; have z5_ := HZ5.out; have z6_ := HZ6.out; have z7_ := HZ7.out; have z8_ := HZ8.out; have z9_ := HZ9.out; have z10_ := HZ10.out; have z11_ := HZ11.out; have z12_ := HZ12.out; have z13_ := HZ13.out; have z14_ := HZ14.out; have z15_ := HZ15.out; have z16_ := HZ16.out; have z17_ := HZ17.out; have z18_ := HZ18.out; omega))); clear F_X2a F_X2b; replace HB := Aside0.mk hB; clear ho0 ho1 hB hK; (try clear hc_T_0); have hc_T_0 : w18_.cell? ⟨gb_T, 0, none⟩ = some (.slice A0_0 l0_0.length c0_0) := (blk_cell BK_T.out 0).trans rfl; (try clear hf_T_0); have hf_T_0 := blk_frozen BK_T.out 0; (try clear hc_T_1); have hc_T_1 : w18_.cell? ⟨gb_T, 1, none⟩ = some (.slice A0_1 l0_1.length c0_1) := (blk_cell BK_T.out 1).trans rfl; (try clear hf_T_1); have hf_T_1 := blk_frozen BK_T.out 1; (try clear hc_V_0); have hc_V_0 : w18_.cell? ⟨gb_V, 0, none⟩ = some (.slice A_X2a xa.length c_X2a) := (blk_cell BK_V.out 0).trans rfl; (try clear hf_V_0); have hf_V_0 := blk_frozen BK_V.out 0; (try clear hc_V_1); have hc_V_1 : w18_.cell? ⟨gb_V, 1, none⟩ = some (.slice A_X2b xb.length c_X2b) := (blk_cell BK_V.out 1).trans rfl; (try clear hf_V_1); have hf_V_1 := blk_frozen BK_V.out 1))
  go_upto_region 21 with (first | (go_at_call 36; refine (laws_markMoveS.calls k (Iv w9_.heap.size w10_.heap.size) _ y n0 n1 y1 w _ HB.out F_Y2.out A_mark1.out).mono ?_; rintro e_ w19_ ⟨rfl, ho, hB, hK⟩; have HZ19 := Aside0.mk hK.1; replace F_W1 := Aside0.mk (Kd.S_kept F_W1.out hK (fun k_ h1_ h2_ => h1_.apart h2_ (by have z1_ := HZ1.out; have z2_ := HZ2.out; have z3_ := HZ3.out; have z4_ := HZ4.out; have z5_ := HZ5.out; have z6_ := HZ6.out; have z7_ := HZ7.out; have z8_ := HZ8.out; have z9_ := HZ9.out; have z10_ := HZ10.out; have z11_ := HZ11.out; have z12_ := HZ12.out; have z13_ := HZ13.out; have z14_ := HZ14.out; have z15_ := HZ15.out; have z16_ := HZ16.out; have z17_ := HZ17.out; have z18_ := HZ18.out; have z19_ := HZ19.out; omega))); replace F_G := Aside0.mk (Kd.S_kept F_G.out hK (fun k_ h1_ h2_ => h1_.apart h2_ (by have z1_ := HZ1.out; have z2_ := HZ2.out; have z3_ := HZ3.out; have z4_ := HZ4.out; have z5_ := HZ5.out; have z6_ := HZ6.out; have z7_ := HZ7.out; have z8_ := HZ8.out; have z9_ := HZ9.out; have z10_ := HZ10.out; have z11_ := HZ11.out; have z12_ := HZ12.out; have z13_ := HZ13.out; have z14_ := HZ14.out; have z15_ := HZ15.out; have z16_ := HZ16.out; have z17_ := HZ17.out; have z18_ := HZ18.out; have z19_ := HZ19.out; omega))); replace BK_T := Aside0.mk (blk_kept BK_T.out hK (fun h2_ => HG_T.out.apart h2_ (by have z1_ := HZ1.out; have z2_ := HZ2.out; have z3_ := HZ3.out; have z4_ := HZ4.out; have z5_ := HZ5.out; have z6_ := HZ6.out; have z7_ := HZ7.out; have z8_ := HZ8.out; have z9_ := HZ9.out; have z10_ := HZ10.out; have z11_ := HZ11.out; have z12_ := HZ12.out; have z13_ := HZ13.out; have z14_ := HZ14.out; have z15_ := HZ15.out; have z16_ := HZ16.out; have z17_ := HZ17.out; have z18_ := HZ18.out; have z19_ := HZ19.out; omega))); replace BK_V := Aside0.mk (blk_kept BK_V.out hK (fun h2_ => HG_V.out.apart h2_ (by have z1_ := HZ1.out; have z2_ := HZ2.out; have z3_ := HZ3.out; have z4_ := HZ4.out; have z5_ := HZ5.out; have z6_ := HZ6.out; have z7_ := HZ7.out; have z8_ := HZ8.out; have z9_ := HZ9.out; have z10_ := HZ10.out; have z11_ := HZ11.out; have z12_ := HZ12.out; have z13_ := HZ13.out; have z14_ := HZ14.out; have z15_ := HZ15.out; have z16_ := HZ16.out; have z17_ := HZ17.out; have z18_ := HZ18.out; have z19_ := HZ19.out; omega))); clear F_Y2; replace HB := Aside0.mk hB; clear ho hB hK; (try clear hc_T_0); have hc_T_0 : w19_.cell? ⟨gb_T, 0, none⟩ = some (.slice A0_0 l0_0.length c0_0) := (blk_cell BK_T.out 0).trans rfl; (try clear hf_T_0); have hf_T_0 := blk_frozen BK_T.out 0; (try clear hc_T_1); have hc_T_1 : w19_.cell? ⟨gb_T, 1, none⟩ = some (.slice A0_1 l0_1.length c0_1) := (blk_cell BK_T.out 1).trans rfl; (try clear hf_T_1); have hf_T_1 := blk_frozen BK_T.out 1; (try clear hc_V_0); have hc_V_0 : w19_.cell? ⟨gb_V, 0, none⟩ = some (.slice A_X2a xa.length c_X2a) := (blk_cell BK_V.out 0).trans rfl; (try clear hf_V_0); have hf_V_0 := blk_frozen BK_V.out 0; (try clear hc_V_1); have hc_V_1 : w19_.cell? ⟨gb_V, 1, none⟩ = some (.slice A_X2b xb.length c_X2b) := (blk_cell BK_V.out 1).trans rfl; (try clear hf_V_1); have hf_V_1 := blk_frozen BK_V.out 1))
  go_upto_region 24 with (first | (go_at_call 39; refine (laws_eqVesselsS.calls k _ _ gl _ _ wl true _ ((Kd.S_reads' F_G.out).2.2) ((Kd.S_reads' F_G.out).2.1) ((Kd.S_reads' F_W1.out).2.2) ((Kd.S_reads' F_W1.out).2.1) A_eqR.out).mono ?_; rintro e_ w20_ ⟨rfl, hb⟩; replace F_W1 := Aside0.mk (Kd.S_below F_W1.out hb); replace F_G := Aside0.mk (Kd.S_below F_G.out hb); replace BK_T := Aside0.mk (blk_below BK_T.out hb); replace BK_V := Aside0.mk (blk_below BK_V.out hb); have HZ20 := Aside0.mk hb.size; replace HB := Aside0.mk (below_then HB.out HB.out.size hb); clear hb; (try clear hc_T_0); have hc_T_0 : w20_.cell? ⟨gb_T, 0, none⟩ = some (.slice A0_0 l0_0.length c0_0) := (blk_cell BK_T.out 0).trans rfl; (try clear hf_T_0); have hf_T_0 := blk_frozen BK_T.out 0; (try clear hc_T_1); have hc_T_1 : w20_.cell? ⟨gb_T, 1, none⟩ = some (.slice A0_1 l0_1.length c0_1) := (blk_cell BK_T.out 1).trans rfl; (try clear hf_T_1); have hf_T_1 := blk_frozen BK_T.out 1; (try clear hc_V_0); have hc_V_0 : w20_.cell? ⟨gb_V, 0, none⟩ = some (.slice A_X2a xa.length c_X2a) := (blk_cell BK_V.out 0).trans rfl; (try clear hf_V_0); have hf_V_0 := blk_frozen BK_V.out 0; (try clear hc_V_1); have hc_V_1 : w20_.cell? ⟨gb_V, 1, none⟩ = some (.slice A_X2b xb.length c_X2b) := (blk_cell BK_V.out 1).trans rfl; (try clear hf_V_1); have hf_V_1 := blk_frozen BK_V.out 1))
  go_upto_region 26 with (first | (go_at_call 40; refine (laws_markVesselsS.calls k (Iv w10_.heap.size w11_.heap.size) _ _ gl 1 m3 gl' w _ HB.out F_G.out A_markR.out).mono ?_; rintro e_ w21_ ⟨rfl, ho, hB, hK⟩; have HZ21 := Aside0.mk hK.1; replace F_W1 := Aside0.mk (Kd.S_kept F_W1.out hK (fun k_ h1_ h2_ => h1_.apart h2_ (by have z1_ := HZ1.out; have z2_ := HZ2.out; have z3_ := HZ3.out; have z4_ := HZ4.out; have z5_ := HZ5.out; have z6_ := HZ6.out; have z7_ := HZ7.out; have z8_ := HZ8.out; have z9_ := HZ9.out; have z10_ := HZ10.out; have z11_ := HZ11.out; have z12_ := HZ12.out; have z13_ := HZ13.out; have z14_ := HZ14.out; have z15_ := HZ15.out; have z16_ := HZ16.out; have z17_ := HZ17.out; have z18_ := HZ18.out; have z19_ := HZ19.out; have z20_ := HZ20.out; have z21_ := HZ21.out; omega))); replace BK_T := Aside0.mk (blk_kept BK_T.out hK (fun h2_ => HG_T.out.apart h2_ (by have z1_ := HZ1.out; have z2_ := HZ2.out; have z3_ := HZ3.out; have z4_ := HZ4.out; have z5_ := HZ5.out; have z6_ := HZ6.out; have z7_ := HZ7.out; have z8_ := HZ8.out; have z9_ := HZ9.out; have z10_ := HZ10.out; have z11_ := HZ11.out; have z12_ := HZ12.out; have z13_ := HZ13.out; have z14_ := HZ14.out; have z15_ := HZ15.out; have z16_ := HZ16.out; have z17_ := HZ17.out; have z18_ := HZ18.out; have z19_ := HZ19.out; have z20_ := HZ20.out; have z21_ := HZ21.out; omega))); replace BK_V := Aside0.mk (blk_kept BK_V.out hK (fun h2_ => HG_V.out.apart h2_ (by have z1_ := HZ1.out; have z2_ := HZ2.out; have z3_ := HZ3.out; have z4_ := HZ4.out; have z5_ := HZ5.out; have z6_ := HZ6.out; have z7_ := HZ7.out; have z8_ := HZ8.out; have z9_ := HZ9.out; have z10_ := HZ10.out; have z11_ := HZ11.out; have z12_ := HZ12.out; have z13_ := HZ13.out; have z14_ := HZ14.out; have z15_ := HZ15.out; have z16_ := HZ16.out; have z17_ := HZ17.out; have z18_ := HZ18.out; have z19_ := HZ19.out; have z20_ := HZ20.out; have z21_ := HZ21.out; omega))); replace F_G := Aside0.mk ho; have HN_G := Aside0.mk (Kd.S_reads' F_G.out).1; replace HB := Aside0.mk hB; clear ho hB hK; (try clear hc_T_0); have hc_T_0 : w21_.cell? ⟨gb_T, 0, none⟩ = some (.slice A0_0 l0_0.length c0_0) := (blk_cell BK_T.out 0).trans rfl; (try clear hf_T_0); have hf_T_0 := blk_frozen BK_T.out 0; (try clear hc_T_1); have hc_T_1 : w21_.cell? ⟨gb_T, 1, none⟩ = some (.slice A0_1 l0_1.length c0_1) := (blk_cell BK_T.out 1).trans rfl; (try clear hf_T_1); have hf_T_1 := blk_frozen BK_T.out 1; (try clear hc_V_0); have hc_V_0 : w21_.cell? ⟨gb_V, 0, none⟩ = some (.slice A_X2a xa.length c_X2a) := (blk_cell BK_V.out 0).trans rfl; (try clear hf_V_0); have hf_V_0 := blk_frozen BK_V.out 0; (try clear hc_V_1); have hc_V_1 : w21_.cell? ⟨gb_V, 1, none⟩ = some (.slice A_X2b xb.length c_X2b) := (blk_cell BK_V.out 1).trans rfl; (try clear hf_V_1); have hf_V_1 := blk_frozen BK_V.out 1))
  go_upto_region 31 with (first | (go_at_call 41; refine (calls_len HN_G.out (laws_heldVesselsS.calls k _ _ gl' 1 m3 _ ((Kd.S_reads' F_G.out).2.2) (Nat.le_trans (Nat.le_of_eq HN_G.out.symm) (Kd.S_reads' F_G.out).2.1) A_held.out)).mono ?_; rintro e_ w22_ ⟨rfl, hd⟩; have hb := drawn_below hd; clear hd; replace F_W1 := Aside0.mk (Kd.S_below F_W1.out hb); replace F_G := Aside0.mk (Kd.S_below F_G.out hb); replace BK_T := Aside0.mk (blk_below BK_T.out hb); replace BK_V := Aside0.mk (blk_below BK_V.out hb); have HZ22 := Aside0.mk hb.size; replace HB := Aside0.mk (below_then HB.out HB.out.size hb); clear hb; (try clear hc_T_0); have hc_T_0 : w22_.cell? ⟨gb_T, 0, none⟩ = some (.slice A0_0 l0_0.length c0_0) := (blk_cell BK_T.out 0).trans rfl; (try clear hf_T_0); have hf_T_0 := blk_frozen BK_T.out 0; (try clear hc_T_1); have hc_T_1 : w22_.cell? ⟨gb_T, 1, none⟩ = some (.slice A0_1 l0_1.length c0_1) := (blk_cell BK_T.out 1).trans rfl; (try clear hf_T_1); have hf_T_1 := blk_frozen BK_T.out 1; (try clear hc_V_0); have hc_V_0 : w22_.cell? ⟨gb_V, 0, none⟩ = some (.slice A_X2a xa.length c_X2a) := (blk_cell BK_V.out 0).trans rfl; (try clear hf_V_0); have hf_V_0 := blk_frozen BK_V.out 0; (try clear hc_V_1); have hc_V_1 : w22_.cell? ⟨gb_V, 1, none⟩ = some (.slice A_X2b xb.length c_X2b) := (blk_cell BK_V.out 1).trans rfl; (try clear hf_V_1); have hf_V_1 := blk_frozen BK_V.out 1))
  go_upto_region 32 with (first | (go_at_call 17; refine (laws_toVessels.calls k A0_0 c0_0 l0_0 A0_1 c0_1 l0_1 xa xb _ (Kd.C_below HR0_0.out HB.out) HC0_0.out (Kd.C_below HR0_1.out HB.out) HC0_1.out A_to0.out).mono ?_; rintro e_ w23_ ⟨v_X4a, v_X4b, rfl, ho0, ho1, hb⟩; replace F_W1 := Aside0.mk (Kd.S_below F_W1.out hb); replace F_G := Aside0.mk (Kd.S_below F_G.out hb); replace BK_T := Aside0.mk (blk_below BK_T.out hb); replace BK_V := Aside0.mk (blk_below BK_V.out hb); obtain ⟨A_X4a, c_X4a, rfl⟩ := Kd.R_slice ho0; obtain ⟨A_X4b, c_X4b, rfl⟩ := Kd.R_slice ho1; have F_X4a := Aside0.mk (R_ivp ho0 HB.out.size); have F_X4b := Aside0.mk (R_ivp ho1 HB.out.size); clear ho0 ho1; have HZ23 := Aside0.mk hb.size; replace HB := Aside0.mk (below_then HB.out HB.out.size hb); clear hb; (try clear hc_T_0); have hc_T_0 : w23_.cell? ⟨gb_T, 0, none⟩ = some (.slice A0_0 l0_0.length c0_0) := (blk_cell BK_T.out 0).trans rfl; (try clear hf_T_0); have hf_T_0 := blk_frozen BK_T.out 0; (try clear hc_T_1); have hc_T_1 : w23_.cell? ⟨gb_T, 1, none⟩ = some (.slice A0_1 l0_1.length c0_1) := (blk_cell BK_T.out 1).trans rfl; (try clear hf_T_1); have hf_T_1 := blk_frozen BK_T.out 1; (try clear hc_V_0); have hc_V_0 : w23_.cell? ⟨gb_V, 0, none⟩ = some (.slice A_X2a xa.length c_X2a) := (blk_cell BK_V.out 0).trans rfl; (try clear hf_V_0); have hf_V_0 := blk_frozen BK_V.out 0; (try clear hc_V_1); have hc_V_1 : w23_.cell? ⟨gb_V, 1, none⟩ = some (.slice A_X2b xb.length c_X2b) := (blk_cell BK_V.out 1).trans rfl; (try clear hf_V_1); have hf_V_1 := blk_frozen BK_V.out 1) | (go_at_call 31; refine (laws_toMoveS.calls k A1 c1 l1 y _ (Kd.C_below HR1.out HB.out) HC1.out A_to1.out).mono ?_; rintro e_ w24_ ⟨v_Y4, rfl, ho, hb⟩; replace F_W1 := Aside0.mk (Kd.S_below F_W1.out hb); replace F_G := Aside0.mk (Kd.S_below F_G.out hb); replace F_X4a := Aside0.mk (Kd.R_below F_X4a.out hb); replace F_X4b := Aside0.mk (Kd.R_below F_X4b.out hb); replace BK_T := Aside0.mk (blk_below BK_T.out hb); replace BK_V := Aside0.mk (blk_below BK_V.out hb); obtain ⟨A_Y4, c_Y4, rfl⟩ := Kd.R_slice ho; have F_Y4 := Aside0.mk (R_ivl ho HB.out.size); clear ho; have HZ24 := Aside0.mk hb.size; replace HB := Aside0.mk (below_then HB.out HB.out.size hb); clear hb; (try clear hc_T_0); have hc_T_0 : w24_.cell? ⟨gb_T, 0, none⟩ = some (.slice A0_0 l0_0.length c0_0) := (blk_cell BK_T.out 0).trans rfl; (try clear hf_T_0); have hf_T_0 := blk_frozen BK_T.out 0; (try clear hc_T_1); have hc_T_1 : w24_.cell? ⟨gb_T, 1, none⟩ = some (.slice A0_1 l0_1.length c0_1) := (blk_cell BK_T.out 1).trans rfl; (try clear hf_T_1); have hf_T_1 := blk_frozen BK_T.out 1; (try clear hc_V_0); have hc_V_0 : w24_.cell? ⟨gb_V, 0, none⟩ = some (.slice A_X2a xa.length c_X2a) := (blk_cell BK_V.out 0).trans rfl; (try clear hf_V_0); have hf_V_0 := blk_frozen BK_V.out 0; (try clear hc_V_1); have hc_V_1 : w24_.cell? ⟨gb_V, 1, none⟩ = some (.slice A_X2b xb.length c_X2b) := (blk_cell BK_V.out 1).trans rfl; (try clear hf_V_1); have hf_V_1 := blk_frozen BK_V.out 1) | (go_at_call 38; refine (impl_StatesAlong.calls k _ _ xa _ _ xb _ _ y gl wb _ ((Kd.R_reads' F_X4a.out).2.2) ((Kd.R_reads' F_X4a.out).2.1) ((Kd.R_reads' F_X4b.out).2.2) ((Kd.R_reads' F_X4b.out).2.1) ((Kd.R_reads' F_Y4.out).2.2) ((Kd.R_reads' F_Y4.out).2.1) A_impl.out).mono ?_; rintro e_ w25_ ⟨v_H, rfl, ho, hb⟩; replace F_W1 := Aside0.mk (Kd.S_below F_W1.out hb); replace F_G := Aside0.mk (Kd.S_below F_G.out hb); replace F_X4a := Aside0.mk (Kd.R_below F_X4a.out hb); replace F_X4b := Aside0.mk (Kd.R_below F_X4b.out hb); replace F_Y4 := Aside0.mk (Kd.R_below F_Y4.out hb); replace BK_T := Aside0.mk (blk_below BK_T.out hb); replace BK_V := Aside0.mk (blk_below BK_V.out hb); obtain ⟨A_H, c_H, rfl⟩ := Kd.S_slice ho; have F_H := Aside0.mk (S_ivl ho HB.out.size); clear ho; have HZ25 := Aside0.mk hb.size; replace HB := Aside0.mk (below_then HB.out HB.out.size hb); clear hb; (try clear hc_T_0); have hc_T_0 : w25_.cell? ⟨gb_T, 0, none⟩ = some (.slice A0_0 l0_0.length c0_0) := (blk_cell BK_T.out 0).trans rfl; (try clear hf_T_0); have hf_T_0 := blk_frozen BK_T.out 0; (try clear hc_T_1); have hc_T_1 : w25_.cell? ⟨gb_T, 1, none⟩ = some (.slice A0_1 l0_1.length c0_1) := (blk_cell BK_T.out 1).trans rfl; (try clear hf_T_1); have hf_T_1 := blk_frozen BK_T.out 1; (try clear hc_V_0); have hc_V_0 : w25_.cell? ⟨gb_V, 0, none⟩ = some (.slice A_X2a xa.length c_X2a) := (blk_cell BK_V.out 0).trans rfl; (try clear hf_V_0); have hf_V_0 := blk_frozen BK_V.out 0; (try clear hc_V_1); have hc_V_1 : w25_.cell? ⟨gb_V, 1, none⟩ = some (.slice A_X2b xb.length c_X2b) := (blk_cell BK_V.out 1).trans rfl; (try clear hf_V_1); have hf_V_1 := blk_frozen BK_V.out 1; clear F_X4a F_X4b F_Y4))
  go_upto_region 35 with (first | (go_at_call 39; refine (laws_eqVesselsS.calls k _ _ gl _ _ wl true _ ((Kd.S_reads' F_H.out).2.2) ((Kd.S_reads' F_H.out).2.1) ((Kd.S_reads' F_W1.out).2.2) ((Kd.S_reads' F_W1.out).2.1) A_eqR.out).mono ?_; rintro e_ w26_ ⟨rfl, hb⟩; replace F_W1 := Aside0.mk (Kd.S_below F_W1.out hb); replace F_G := Aside0.mk (Kd.S_below F_G.out hb); replace F_H := Aside0.mk (Kd.S_below F_H.out hb); replace BK_T := Aside0.mk (blk_below BK_T.out hb); replace BK_V := Aside0.mk (blk_below BK_V.out hb); have HZ26 := Aside0.mk hb.size; replace HB := Aside0.mk (below_then HB.out HB.out.size hb); clear hb; (try clear hc_T_0); have hc_T_0 : w26_.cell? ⟨gb_T, 0, none⟩ = some (.slice A0_0 l0_0.length c0_0) := (blk_cell BK_T.out 0).trans rfl; (try clear hf_T_0); have hf_T_0 := blk_frozen BK_T.out 0; (try clear hc_T_1); have hc_T_1 : w26_.cell? ⟨gb_T, 1, none⟩ = some (.slice A0_1 l0_1.length c0_1) := (blk_cell BK_T.out 1).trans rfl; (try clear hf_T_1); have hf_T_1 := blk_frozen BK_T.out 1; (try clear hc_V_0); have hc_V_0 : w26_.cell? ⟨gb_V, 0, none⟩ = some (.slice A_X2a xa.length c_X2a) := (blk_cell BK_V.out 0).trans rfl; (try clear hf_V_0); have hf_V_0 := blk_frozen BK_V.out 0; (try clear hc_V_1); have hc_V_1 : w26_.cell? ⟨gb_V, 1, none⟩ = some (.slice A_X2b xb.length c_X2b) := (blk_cell BK_V.out 1).trans rfl; (try clear hf_V_1); have hf_V_1 := blk_frozen BK_V.out 1))
  go_wp2_with (first | (go_at_call 41; refine (calls_len HN_G.out (laws_heldVesselsS.calls k _ _ gl' 1 m3 _ ((Kd.S_reads' F_G.out).2.2) (Nat.le_trans (Nat.le_of_eq HN_G.out.symm) (Kd.S_reads' F_G.out).2.1) A_held.out)).mono ?_; rintro e_ w27_ ⟨rfl, hd⟩; have hb := drawn_below hd; clear hd; replace F_W1 := Aside0.mk (Kd.S_below F_W1.out hb); replace F_G := Aside0.mk (Kd.S_below F_G.out hb); replace F_H := Aside0.mk (Kd.S_below F_H.out hb); replace BK_T := Aside0.mk (blk_below BK_T.out hb); replace BK_V := Aside0.mk (blk_below BK_V.out hb); have HZ27 := Aside0.mk hb.size; replace HB := Aside0.mk (below_then HB.out HB.out.size hb); clear hb; (try clear hc_T_0); have hc_T_0 : w27_.cell? ⟨gb_T, 0, none⟩ = some (.slice A0_0 l0_0.length c0_0) := (blk_cell BK_T.out 0).trans rfl; (try clear hf_T_0); have hf_T_0 := blk_frozen BK_T.out 0; (try clear hc_T_1); have hc_T_1 : w27_.cell? ⟨gb_T, 1, none⟩ = some (.slice A0_1 l0_1.length c0_1) := (blk_cell BK_T.out 1).trans rfl; (try clear hf_T_1); have hf_T_1 := blk_frozen BK_T.out 1; (try clear hc_V_0); have hc_V_0 : w27_.cell? ⟨gb_V, 0, none⟩ = some (.slice A_X2a xa.length c_X2a) := (blk_cell BK_V.out 0).trans rfl; (try clear hf_V_0); have hf_V_0 := blk_frozen BK_V.out 0; (try clear hc_V_1); have hc_V_1 : w27_.cell? ⟨gb_V, 1, none⟩ = some (.slice A_X2b xb.length c_X2b) := (blk_cell BK_V.out 1).trans rfl; (try clear hf_V_1); have hf_V_1 := blk_frozen BK_V.out 1))
  go_ret
  exact ⟨by first | rfl | simp, HB.out⟩
set_option maxHeartbeats 8000000 in
set_option maxRecDepth 100000 in
theorem laws_FnExactStatesAlong.calls (k : Nat) (A0_0 : Option Addr) (c0_0 : Nat) (l0_0 : List (Int)) (A0_1 : Option Addr) (c0_1 : Nat) (l0_1 : List (Int)) (A1 : Option Addr) (c1 : Nat) (l1 : List (S39)) (w : World) (hr0_0 : Kd.C (Kd.int .i64) w A0_0 l0_0.length l0_0) (hc0_0 : l0_0.length ≤ c0_0) (hr0_1 : Kd.C (Kd.int .i64) w A0_1 l0_1.length l0_1) (hc0_1 : l0_1.length ≤ c0_1) (hr1 : Kd.C k39 w A1 l1.length l1) (hc1 : l1.length ≤ c1) (h : laws_FnExactStatesAlong.f k l0_0 l0_1 l1 = some true) :
    Calls Try.prog 9 #[.agg #[.slice A0_0 l0_0.length c0_0, .slice A0_1 l0_1.length c0_1], .slice A1 l1.length c1] w fun e w' => e = .returned (.bool true) ∧ Below w.heap.size w w' := by
  unfold laws_FnExactStatesAlong.f at h
  replace h := Option.bind_eq_some_iff.mp h
  obtain ⟨z0, A_sz0, h⟩ := h
  by_cases hz0 : z0 < 0
  · have hu24 := Try.underlying24
    have hu26 := Try.underlying26
    have bz0 : decide (z0 < 0) = true := decide_eq_true hz0
    have HB := Aside0.mk (Below.refl w.heap.size w)
    have HR0_0 := Aside0.mk hr0_0
    have HC0_0 := Aside0.mk hc0_0
    have HR0_1 := Aside0.mk hr0_1
    have HC0_1 := Aside0.mk hc0_1
    have HR1 := Aside0.mk hr1
    have HC1 := Aside0.mk hc1
    replace A_sz0 := Aside0.mk A_sz0
    clear h hr0_0 hc0_0 hr0_1 hc0_1 hr1 hc1 hz0
    go_enter Try.func9, Try.ntmps9
    go_wp2_with (first | ((with_reducible refine gate_dst (N := 2) rfl ?_); refine box_event ?hg (N := 2) ?hd (cs := #[.slice A0_0 l0_0.length c0_0, .slice A0_1 l0_1.length c0_1]) (t := 24) ?hr ?_; (case hd => rfl); (case hg => rfl); (case hr => first | (go_simp; done) | (go_simp; rfl)); intro gb_T hg w1_ hbox hb; have BK_T := Aside0.mk hbox; have HG_T := Aside0.mk (show Iv w.heap.size w1_.heap.size gb_T from ⟨Nat.le_of_eq hg.symm, blk_lt hbox⟩); clear hbox hg; have HZ1 := Aside0.mk hb.size; replace HB := Aside0.mk (below_then HB.out HB.out.size hb); clear hb; (try clear hc_T_0); have hc_T_0 : w1_.cell? ⟨gb_T, 0, none⟩ = some (.slice A0_0 l0_0.length c0_0) := (blk_cell BK_T.out 0).trans rfl; (try clear hf_T_0); have hf_T_0 := blk_frozen BK_T.out 0; (try clear hc_T_1); have hc_T_1 : w1_.cell? ⟨gb_T, 1, none⟩ = some (.slice A0_1 l0_1.length c0_1) := (blk_cell BK_T.out 1).trans rfl; (try clear hf_T_1); have hf_T_1 := blk_frozen BK_T.out 1) | (go_at_call 15; refine (laws_szVessels.calls A0_0 c0_0 l0_0 A0_1 c0_1 l0_1 1048576 z0 _ (Kd.C_below HR0_0.out HB.out) HC0_0.out (Kd.C_below HR0_1.out HB.out) HC0_1.out A_sz0.out).mono ?_; rintro e_ w2_ ⟨rfl, hb⟩; replace BK_T := Aside0.mk (blk_below BK_T.out hb); have HZ2 := Aside0.mk hb.size; replace HB := Aside0.mk (below_then HB.out HB.out.size hb); clear hb; (try clear hc_T_0); have hc_T_0 : w2_.cell? ⟨gb_T, 0, none⟩ = some (.slice A0_0 l0_0.length c0_0) := (blk_cell BK_T.out 0).trans rfl; (try clear hf_T_0); have hf_T_0 := blk_frozen BK_T.out 0; (try clear hc_T_1); have hc_T_1 : w2_.cell? ⟨gb_T, 1, none⟩ = some (.slice A0_1 l0_1.length c0_1) := (blk_cell BK_T.out 1).trans rfl; (try clear hf_T_1); have hf_T_1 := blk_frozen BK_T.out 1))
    go_ret
    exact ⟨by first | rfl | simp, HB.out⟩
  rw [if_neg hz0] at h
  replace h := Option.bind_eq_some_iff.mp h
  obtain ⟨z1, A_sz1, h⟩ := h
  by_cases hz1 : z1 < 0
  · have hu24 := Try.underlying24
    have hu26 := Try.underlying26
    have bz0 : decide (z0 < 0) = false := decide_eq_false hz0
    have bz1 : decide (z1 < 0) = true := decide_eq_true hz1
    have HB := Aside0.mk (Below.refl w.heap.size w)
    have HR0_0 := Aside0.mk hr0_0
    have HC0_0 := Aside0.mk hc0_0
    have HR0_1 := Aside0.mk hr0_1
    have HC0_1 := Aside0.mk hc0_1
    have HR1 := Aside0.mk hr1
    have HC1 := Aside0.mk hc1
    replace A_sz0 := Aside0.mk A_sz0
    replace A_sz1 := Aside0.mk A_sz1
    clear h hr0_0 hc0_0 hr0_1 hc0_1 hr1 hc1 hz0 hz1
    go_enter Try.func9, Try.ntmps9
    go_upto_region 5 with (first | ((with_reducible refine gate_dst (N := 2) rfl ?_); refine box_event ?hg (N := 2) ?hd (cs := #[.slice A0_0 l0_0.length c0_0, .slice A0_1 l0_1.length c0_1]) (t := 24) ?hr ?_; (case hd => rfl); (case hg => rfl); (case hr => first | (go_simp; done) | (go_simp; rfl)); intro gb_T hg w1_ hbox hb; have BK_T := Aside0.mk hbox; have HG_T := Aside0.mk (show Iv w.heap.size w1_.heap.size gb_T from ⟨Nat.le_of_eq hg.symm, blk_lt hbox⟩); clear hbox hg; have HZ1 := Aside0.mk hb.size; replace HB := Aside0.mk (below_then HB.out HB.out.size hb); clear hb; (try clear hc_T_0); have hc_T_0 : w1_.cell? ⟨gb_T, 0, none⟩ = some (.slice A0_0 l0_0.length c0_0) := (blk_cell BK_T.out 0).trans rfl; (try clear hf_T_0); have hf_T_0 := blk_frozen BK_T.out 0; (try clear hc_T_1); have hc_T_1 : w1_.cell? ⟨gb_T, 1, none⟩ = some (.slice A0_1 l0_1.length c0_1) := (blk_cell BK_T.out 1).trans rfl; (try clear hf_T_1); have hf_T_1 := blk_frozen BK_T.out 1) | (go_at_call 15; refine (laws_szVessels.calls A0_0 c0_0 l0_0 A0_1 c0_1 l0_1 1048576 z0 _ (Kd.C_below HR0_0.out HB.out) HC0_0.out (Kd.C_below HR0_1.out HB.out) HC0_1.out A_sz0.out).mono ?_; rintro e_ w2_ ⟨rfl, hb⟩; replace BK_T := Aside0.mk (blk_below BK_T.out hb); have HZ2 := Aside0.mk hb.size; replace HB := Aside0.mk (below_then HB.out HB.out.size hb); clear hb; (try clear hc_T_0); have hc_T_0 : w2_.cell? ⟨gb_T, 0, none⟩ = some (.slice A0_0 l0_0.length c0_0) := (blk_cell BK_T.out 0).trans rfl; (try clear hf_T_0); have hf_T_0 := blk_frozen BK_T.out 0; (try clear hc_T_1); have hc_T_1 : w2_.cell? ⟨gb_T, 1, none⟩ = some (.slice A0_1 l0_1.length c0_1) := (blk_cell BK_T.out 1).trans rfl; (try clear hf_T_1); have hf_T_1 := blk_frozen BK_T.out 1))
    go_wp2_with (first | (go_at_call 29; refine (laws_szMoveS.calls A1 c1 l1 z0 z1 _ (Kd.C_below HR1.out HB.out) HC1.out A_sz1.out).mono ?_; rintro e_ w3_ ⟨rfl, hd⟩; have hb := drawn_below hd; clear hd; replace BK_T := Aside0.mk (blk_below BK_T.out hb); have HZ3 := Aside0.mk hb.size; replace HB := Aside0.mk (below_then HB.out HB.out.size hb); clear hb; (try clear hc_T_0); have hc_T_0 : w3_.cell? ⟨gb_T, 0, none⟩ = some (.slice A0_0 l0_0.length c0_0) := (blk_cell BK_T.out 0).trans rfl; (try clear hf_T_0); have hf_T_0 := blk_frozen BK_T.out 0; (try clear hc_T_1); have hc_T_1 : w3_.cell? ⟨gb_T, 1, none⟩ = some (.slice A0_1 l0_1.length c0_1) := (blk_cell BK_T.out 1).trans rfl; (try clear hf_T_1); have hf_T_1 := blk_frozen BK_T.out 1))
    go_ret
    exact ⟨by first | rfl | simp, HB.out⟩
  rw [if_neg hz1] at h
  replace h := Option.bind_eq_some_iff.mp h
  obtain ⟨⟨xa, xb⟩, A_to0, h⟩ := h
  replace h := Option.bind_eq_some_iff.mp h
  obtain ⟨y, A_to1, h⟩ := h
  replace h := Option.bind_eq_some_iff.mp h
  obtain ⟨⟨wl, wb⟩, A_spec, h⟩ := h
  replace h := Option.bind_eq_some_iff.mp h
  obtain ⟨⟨gl, gb⟩, A_impl, h⟩ := h
  replace h := Option.bind_eq_some_iff.mp h
  obtain ⟨e, A_eqR, h⟩ := h
  dsimp only at h A_eqR A_spec A_impl
  by_cases c1 : e = true ∧ gb = wb
  case neg => rw [if_neg c1] at h; exact absurd h (by simp)
  rw [if_pos c1] at h
  obtain ⟨rfl, rfl⟩ := c1
  replace h := Option.bind_eq_some_iff.mp h
  obtain ⟨e0, A_eq0, h⟩ := h
  by_cases d0 : e0 = true
  case neg => rw [if_neg d0] at h; exact absurd h (by simp)
  rw [if_pos d0] at h
  subst d0
  replace h := Option.bind_eq_some_iff.mp h
  obtain ⟨e1, A_eq1, h⟩ := h
  by_cases d1 : e1 = true
  case neg => rw [if_neg d1] at h; exact absurd h (by simp)
  rw [if_pos d1] at h
  subst d1
  replace h := Option.bind_eq_some_iff.mp h
  obtain ⟨⟨n0, ya, yb⟩, A_mark0, h⟩ := h
  replace h := Option.bind_eq_some_iff.mp h
  obtain ⟨⟨n1, y1⟩, A_mark1, h⟩ := h
  dsimp only at h A_mark1
  by_cases hm : n1 < 0
  · rw [if_pos hm] at h; exact absurd h (by simp)
  rw [if_neg hm] at h
  replace h := Option.bind_eq_some_iff.mp h
  obtain ⟨⟨m3, gl'⟩, A_markR, h⟩ := h
  replace h := Option.bind_eq_some_iff.mp h
  obtain ⟨q, A_held, h⟩ := h
  dsimp only at h A_held
  by_cases hq : q < 0
  · rw [if_pos hq] at h; exact absurd h (by simp)
  rw [if_neg hq] at h
  by_cases c4 : q = m3
  case neg => rw [if_neg c4] at h; exact absurd h (by simp)
  subst c4
  exact laws_FnExactStatesAlong.main k A0_0 c0_0 l0_0 A0_1 c0_1 l0_1 A1 c1 l1 z0 z1 xa xb ya yb y y1 n0 n1 q wl gl gl' _ w hr0_0 hc0_0 hr0_1 hc0_1 hr1 hc1 A_sz0 hz0 A_sz1 hz1 A_to0 A_to1 A_spec A_impl A_eqR A_eq0 A_eq1 A_mark0 A_mark1 hm A_markR A_held hq

end Go.Proofs.Ytobkbpoamicjgaa.PFnExactStatesAlong

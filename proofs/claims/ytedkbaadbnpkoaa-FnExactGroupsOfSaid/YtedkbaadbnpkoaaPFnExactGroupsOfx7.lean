/- Lean functions of the Go functions that the law FnExactGroupsOf reaches, and the proofs that the calls come to what they say (made by program). -/
import Derived.Test.YtedkbaadbnpkoaaPFnExactGroupsOfx0
import Derived.Test.YtedkbaadbnpkoaaPFnExactGroupsOfx1
import Derived.Test.YtedkbaadbnpkoaaPFnExactGroupsOfx2
import Derived.Test.YtedkbaadbnpkoaaPFnExactGroupsOfx3
import Derived.Test.YtedkbaadbnpkoaaPFnExactGroupsOfx5
import Derived.Test.YtedkbaadbnpkoaaPFnExactGroupsOfx6
namespace Go.Proofs.Ytedkbaadbnpkoaa.PFnExactGroupsOf
open Go.RowKit Go.Proofs.YtedkbaadbnpkoaaW.PrintWords Go.Proofs.YtedkbaadbnpkoaaW.PrintLast Go.Proofs.YtedkbaadbnpkoaaW.PrintMore
attribute [local go_sem] max2_int min2_int max_two min_two max_three min_three max_four min_four   -- for this text's walks alone
set_option linter.unusedVariables false
set_option linter.unusedSimpArgs false

/-! ### laws_heldIntS: function 43 -/
def laws_heldIntS.l0 : Nat → List Int → Int → Int → Option (Int)
  | 0, _, _, _ => none
  | k + 1, x0, x1, x5 => if x5 < (x0.length : Int) then (if 0 ≤ x5 then (if (rd x0 x5) = x1 then (laws_heldIntS.l0 k x0 (wrap64 (x1 + 1)) (wrap64 (x5 + 1))) else (some (-1))) else (none)) else (some x1)
def laws_heldIntS.f (k : Nat) (l0 : List Int) (a1 : Int) : Option (Int) := laws_heldIntS.l0 k l0 a1 0
theorem laws_heldIntS.mono_l : ∀ k, (∀ y0 y1 y2, LeO (laws_heldIntS.l0 k y0 y1 y2) (laws_heldIntS.l0 (k + 1) y0 y1 y2))
  | 0 => fun _ _ _ r h => by simp [laws_heldIntS.l0] at h
  | k + 1 => by
    have ih0 := laws_heldIntS.mono_l k
    · intro y0 y1 y2
      unfold laws_heldIntS.l0
      repeat' first
      | (with_reducible exact ih0 _ _ _)
      | (with_reducible exact LeO.refl _)
      | (with_reducible exact LeO.none _)
      | (with_reducible refine LeO.ite ?_ ?_)
      | (with_reducible refine LeO.bind ?_ (fun _ => ?_))
      | exact ih0 _ _ _
      | exact LeO.none _
      | refine LeO.ite ?_ ?_
      | refine LeO.bind ?_ (fun _ => ?_)
theorem laws_heldIntS.mono : ∀ a0 a1 k, LeO (laws_heldIntS.f k a0 a1) (laws_heldIntS.f (k + 1) a0 a1) := by
  intro a0 a1 k
  have ih0 := laws_heldIntS.mono_l k
  unfold laws_heldIntS.f
  repeat' first
      | (with_reducible exact ih0 _ _ _)
      | (with_reducible exact LeO.refl _)
      | (with_reducible exact LeO.none _)
      | (with_reducible refine LeO.ite ?_ ?_)
      | (with_reducible refine LeO.bind ?_ (fun _ => ?_))
      | exact ih0 _ _ _
      | exact LeO.none _
      | refine LeO.ite ?_ ?_
      | refine LeO.bind ?_ (fun _ => ?_)
set_option maxHeartbeats 8000000 in
set_option maxRecDepth 100000 in
theorem laws_heldIntS.calls (k : Nat) (A0 : Option Addr) (c0 : Nat) (l0 : List Int) (a1 : Int) (r : Int) (w : World) (hr0 : Kd.C (Kd.int .i64) w A0 l0.length l0) (hc0 : l0.length ≤ c0) (h : laws_heldIntS.f k l0 a1 = some r) :
    Calls Try.prog 43 #[.slice A0 l0.length c0, .int .i64 a1] w fun e w' => e = .returned (.int .i64 r) ∧ Drawn0 w w' := by
  have HR0 := Aside0.mk hr0
  have HC0 := Aside0.mk hc0
  clear hr0 hc0
  have H : (laws_heldIntS.l0 k l0 a1 0) = some r := h
  clear h
  have H' := Aside0.mk H
  clear H
  go_enter Try.func43, Try.ntmps43
  go_wp2
  go_loopg [1, 5] k (fun kq v1 v5 w' => ∃ (x1_1 : Int) (x5_1 : Int), v1 = .int .i64 x1_1 ∧ v5 = .int .i64 x5_1 ∧ Aside0 (laws_heldIntS.l0 kq l0 x1_1 x5_1 = some r) ∧ Aside0 (kq ≤ k) ∧ Drawn0 w w')
  case atStart => exact ⟨(a1), (0), (by first | rfl | (simp; done) | (simp [*]; done)), (by first | rfl | (simp; done) | (simp [*]; done)), H', ⟨Nat.le_refl _⟩, by repeat (first | exact Drawn0.refl _ | apply Drawn0.step)⟩
  case round =>
    clear H'
    try clear p2
    obtain ⟨x1_1, x5_1, rfl, rfl, HA, HK1, ⟨m1, rfl⟩⟩ := hrel
    cases gk with
    | zero => exact absurd HA.out (by simp [laws_heldIntS.l0])
    | succ k1 =>
      have H := HA.out
      clear HA
      simp only [laws_heldIntS.l0] at H
      by_cases c3 : x5_1 < (l0.length : Int)
      · rw [if_pos c3] at H
        have c3b0 : decide (x5_1 < (l0.length : Int)) = true := decide_eq_true c3
        clear c3
        by_cases c4 : 0 ≤ x5_1
        · rw [if_pos c4] at H
          have c4b0 : decide (0 ≤ x5_1) = true := decide_eq_true c4
          clear c4
          by_cases c5 : (rd l0 x5_1) = x1_1
          · rw [if_pos c5] at H
            have c5b0 : ((rd l0 x5_1) == x1_1) = true := beq_iff_eq.mpr c5
            have c5b1 : ((rd l0 x5_1) != x1_1) = false := bne_eq_false_iff_eq.mpr c5
            clear c5
            have H' := Aside0.mk H
            clear H
            have p216 : 0 ≤ (x5_1 : Int) := of_decide_eq_true (by first | (with_reducible assumption) | assumption)
            have q216 : x5_1 < (l0.length : Int) := of_decide_eq_true (by first | (with_reducible assumption) | assumption)
            obtain ⟨ad216, e216, hx216_0⟩ := Kd.at_int HR0.out x5_1 p216 q216
            cases e216
            replace p216 := eq_true p216
            replace q216 := eq_true q216
            go_wp2
            go_roundg k1
            case measure => have := HK1.out; omega
            case rel => exact ⟨(wrap64 (x1_1 + 1)), (wrap64 (x5_1 + 1)), (by first | rfl | (simp; done) | (simp [*]; done)), (by first | rfl | (simp; done) | (simp [*]; done)), H', ⟨by have := HK1.out; omega⟩, by repeat (first | exact Drawn0.refl _ | apply Drawn0.step)⟩
          · rw [if_neg c5] at H
            have c5b0 : ((rd l0 x5_1) == x1_1) = false := beq_eq_false_iff_ne.mpr c5
            have c5b1 : ((rd l0 x5_1) != x1_1) = true := bne_iff_ne.mpr c5
            obtain rfl := Option.some.inj H
            have p216 : 0 ≤ (x5_1 : Int) := of_decide_eq_true (by first | (with_reducible assumption) | assumption)
            have q216 : x5_1 < (l0.length : Int) := of_decide_eq_true (by first | (with_reducible assumption) | assumption)
            obtain ⟨ad216, e216, hx216_0⟩ := Kd.at_int HR0.out x5_1 p216 q216
            cases e216
            replace p216 := eq_true p216
            replace q216 := eq_true q216
            go_wp2
            go_ret
            exact ⟨by first | rfl | (simp; done) | (simp [*]; done), by repeat (first | exact Drawn0.refl _ | apply Drawn0.step)⟩
        · rw [if_neg c4] at H
          exact absurd H (by simp)
      · rw [if_neg c3] at H
        have c3b0 : decide (x5_1 < (l0.length : Int)) = false := decide_eq_false c3
        clear c3
        obtain rfl := Option.some.inj H
        go_wp2
        go_ret
        exact ⟨by first | rfl | (simp; done) | (simp [*]; done), by repeat (first | exact Drawn0.refl _ | apply Drawn0.step)⟩

/-! ### laws_heldIntSS: function 38 -/
def laws_heldIntSS.l0 : Nat → List (List Int) → Int → Int → Option (Int)
  | 0, _, _, _ => none
  | k + 1, x0, x1, x5 => if x5 < (x0.length : Int) then (if 0 ≤ x5 then ((laws_heldIntS.f k (rd_L3 x0 x5) x1).bind fun t218 => (if t218 < 0 then (some (-1)) else (laws_heldIntSS.l0 k x0 t218 (wrap64 (x5 + 1))))) else (none)) else (some x1)
def laws_heldIntSS.f (k : Nat) (l0 : List (List Int)) (a1 : Int) : Option (Int) := laws_heldIntSS.l0 k l0 a1 0
theorem laws_heldIntSS.mono_l : ∀ k, (∀ y0 y1 y2, LeO (laws_heldIntSS.l0 k y0 y1 y2) (laws_heldIntSS.l0 (k + 1) y0 y1 y2))
  | 0 => fun _ _ _ r h => by simp [laws_heldIntSS.l0] at h
  | k + 1 => by
    have ih0 := laws_heldIntSS.mono_l k
    · intro y0 y1 y2
      unfold laws_heldIntSS.l0
      repeat' first
      | (with_reducible exact ih0 _ _ _)
      | (with_reducible exact laws_heldIntS.mono _ _ _)
      | (with_reducible exact LeO.refl _)
      | (with_reducible exact LeO.none _)
      | (with_reducible refine LeO.ite ?_ ?_)
      | (with_reducible refine LeO.bind ?_ (fun _ => ?_))
      | exact ih0 _ _ _
      | exact laws_heldIntS.mono _ _ _
      | exact LeO.none _
      | refine LeO.ite ?_ ?_
      | refine LeO.bind ?_ (fun _ => ?_)
theorem laws_heldIntSS.mono : ∀ a0 a1 k, LeO (laws_heldIntSS.f k a0 a1) (laws_heldIntSS.f (k + 1) a0 a1) := by
  intro a0 a1 k
  have ih0 := laws_heldIntSS.mono_l k
  unfold laws_heldIntSS.f
  repeat' first
      | (with_reducible exact ih0 _ _ _)
      | (with_reducible exact laws_heldIntS.mono _ _ _)
      | (with_reducible exact LeO.refl _)
      | (with_reducible exact LeO.none _)
      | (with_reducible refine LeO.ite ?_ ?_)
      | (with_reducible refine LeO.bind ?_ (fun _ => ?_))
      | exact ih0 _ _ _
      | exact laws_heldIntS.mono _ _ _
      | exact LeO.none _
      | refine LeO.ite ?_ ?_
      | refine LeO.bind ?_ (fun _ => ?_)
set_option maxHeartbeats 8000000 in
set_option maxRecDepth 100000 in
theorem laws_heldIntSS.calls (k : Nat) (A0 : Option Addr) (c0 : Nat) (l0 : List (List Int)) (a1 : Int) (r : Int) (w : World) (hr0 : Kd.C (Kd.slice 3 (Kd.int .i64)) w A0 l0.length l0) (hc0 : l0.length ≤ c0) (h : laws_heldIntSS.f k l0 a1 = some r) :
    Calls Try.prog 38 #[.slice A0 l0.length c0, .int .i64 a1] w fun e w' => e = .returned (.int .i64 r) ∧ Drawn0 w w' := by
  have HR0 := Aside0.mk hr0
  have HC0 := Aside0.mk hc0
  clear hr0 hc0
  have H : (laws_heldIntSS.l0 k l0 a1 0) = some r := h
  clear h
  have H' := Aside0.mk H
  clear H
  go_enter Try.func38, Try.ntmps38
  go_wp2
  go_loopg [1, 5] k (fun kq v1 v5 w' => ∃ (x1_1 : Int) (x5_1 : Int), v1 = .int .i64 x1_1 ∧ v5 = .int .i64 x5_1 ∧ Aside0 (laws_heldIntSS.l0 kq l0 x1_1 x5_1 = some r) ∧ Aside0 (kq ≤ k) ∧ Drawn0 w w')
  case atStart => exact ⟨(a1), (0), (by first | rfl | (simp; done) | (simp [*]; done)), (by first | rfl | (simp; done) | (simp [*]; done)), H', ⟨Nat.le_refl _⟩, by repeat (first | exact Drawn0.refl _ | apply Drawn0.step)⟩
  case round =>
    clear H'
    try clear p2
    obtain ⟨x1_1, x5_1, rfl, rfl, HA, HK1, ⟨m1, rfl⟩⟩ := hrel
    cases gk with
    | zero => exact absurd HA.out (by simp [laws_heldIntSS.l0])
    | succ k1 =>
      have H := HA.out
      clear HA
      simp only [laws_heldIntSS.l0] at H
      by_cases c3 : x5_1 < (l0.length : Int)
      · rw [if_pos c3] at H
        have c3b0 : decide (x5_1 < (l0.length : Int)) = true := decide_eq_true c3
        clear c3
        by_cases c4 : 0 ≤ x5_1
        · rw [if_pos c4] at H
          have c4b0 : decide (0 ≤ x5_1) = true := decide_eq_true c4
          clear c4
          replace H := Option.bind_eq_some_iff.mp H
          obtain ⟨t218, A50, H⟩ := H
          replace H : (if t218 < 0 then (some (-1)) else (laws_heldIntSS.l0 k1 l0 t218 (wrap64 (x5_1 + 1)))) = some r := H
          have A5 := Aside0.mk A50
          clear A50
          by_cases c6 : t218 < 0
          · rw [if_pos c6] at H
            have c6b0 : decide (t218 < 0) = true := decide_eq_true c6
            clear c6
            obtain rfl := Option.some.inj H
            have p217 : 0 ≤ (x5_1 : Int) := of_decide_eq_true (by first | (with_reducible assumption) | assumption)
            have q217 : x5_1 < (l0.length : Int) := of_decide_eq_true (by first | (with_reducible assumption) | assumption)
            obtain ⟨ad217, A217_0, c217_0, e217, hx217_0, hl217_0, hi217_0⟩ := at_L3 HR0.out x5_1 p217 q217
            cases e217
            have HR217_0 := Aside0.mk hi217_0
            have HC217_0 := Aside0.mk hl217_0
            clear hi217_0 hl217_0
            replace p217 := eq_true p217
            replace q217 := eq_true q217
            go_wp2_with (first | ((with_reducible refine gate_callee (f := 43) rfl ?_); refine goesL_ (some 17) rfl rfl Try.func43 (by kernel_rfl) rfl #[.slice A217_0 (rd_L3 l0 x5_1).length c217_0, .int .i64 x1_1] rfl (by (try simp only [List.map_toArray, List.map_cons, List.map_nil]); first | done | rfl | (simp only [List.length_drop, List.length_take]; rfl)) ?_; (with_reducible refine (laws_heldIntS.calls k1 _ _ (rd_L3 l0 x5_1) x1_1 t218 _ ?side1 ?side2 A5.out).mono ?_); (case side1 => repeat (first | exact HR217_0.out | (with_reducible refine Kd.C_alloc ?_ _) | (with_reducible refine Kd.C_drewN ?_ _) | (with_reducible refine Kd.C_drew ?_))); (case side2 => exact HC217_0.out); rintro e w' ⟨rfl, ⟨nd, rfl⟩⟩; refine ⟨_, rfl, ?_⟩))
            go_ret
            exact ⟨by first | rfl | (simp; done) | (simp [*]; done), by repeat (first | exact Drawn0.refl _ | apply Drawn0.step)⟩
          · rw [if_neg c6] at H
            have c6b0 : decide (t218 < 0) = false := decide_eq_false c6
            clear c6
            have H' := Aside0.mk H
            clear H
            have p217 : 0 ≤ (x5_1 : Int) := of_decide_eq_true (by first | (with_reducible assumption) | assumption)
            have q217 : x5_1 < (l0.length : Int) := of_decide_eq_true (by first | (with_reducible assumption) | assumption)
            obtain ⟨ad217, A217_0, c217_0, e217, hx217_0, hl217_0, hi217_0⟩ := at_L3 HR0.out x5_1 p217 q217
            cases e217
            have HR217_0 := Aside0.mk hi217_0
            have HC217_0 := Aside0.mk hl217_0
            clear hi217_0 hl217_0
            replace p217 := eq_true p217
            replace q217 := eq_true q217
            go_wp2_with (first | ((with_reducible refine gate_callee (f := 43) rfl ?_); refine goesL_ (some 17) rfl rfl Try.func43 (by kernel_rfl) rfl #[.slice A217_0 (rd_L3 l0 x5_1).length c217_0, .int .i64 x1_1] rfl (by (try simp only [List.map_toArray, List.map_cons, List.map_nil]); first | done | rfl | (simp only [List.length_drop, List.length_take]; rfl)) ?_; (with_reducible refine (laws_heldIntS.calls k1 _ _ (rd_L3 l0 x5_1) x1_1 t218 _ ?side1 ?side2 A5.out).mono ?_); (case side1 => repeat (first | exact HR217_0.out | (with_reducible refine Kd.C_alloc ?_ _) | (with_reducible refine Kd.C_drewN ?_ _) | (with_reducible refine Kd.C_drew ?_))); (case side2 => exact HC217_0.out); rintro e w' ⟨rfl, ⟨nd, rfl⟩⟩; refine ⟨_, rfl, ?_⟩))
            go_roundg k1
            case measure => have := HK1.out; omega
            case rel => exact ⟨(t218), (wrap64 (x5_1 + 1)), (by first | rfl | (simp; done) | (simp [*]; done)), (by first | rfl | (simp; done) | (simp [*]; done)), H', ⟨by have := HK1.out; omega⟩, by repeat (first | exact Drawn0.refl _ | apply Drawn0.step)⟩
        · rw [if_neg c4] at H
          exact absurd H (by simp)
      · rw [if_neg c3] at H
        have c3b0 : decide (x5_1 < (l0.length : Int)) = false := decide_eq_false c3
        clear c3
        obtain rfl := Option.some.inj H
        go_wp2
        go_ret
        exact ⟨by first | rfl | (simp; done) | (simp [*]; done), by repeat (first | exact Drawn0.refl _ | apply Drawn0.step)⟩

/-! ### laws_FnExactGroupsOf: function 8 -/
/-- the blocks from lo on, below hi -/
def Iv (lo hi : Nat) : Nat → Prop := fun k => lo ≤ k ∧ k < hi
theorem Iv.apart {a b c d k : Nat} (h1 : Iv a b k) (h2 : Iv c d k) (h : b ≤ c ∨ d ≤ a) : False := by
  obtain ⟨p, q⟩ := h1
  obtain ⟨r, s⟩ := h2
  omega
theorem R_ivl {α : Type} {d : Kd α} {e b0 : Nat} {W W1 : World} {ok : Nat → Prop} {v : Value} {xs : List α} (h : d.R e W1 W.heap.size ok v xs) (hb : b0 ≤ W.heap.size) : d.R e W1 b0 (Iv W.heap.size W1.heap.size) v xs := Kd.R_lower (Kd.R_mono (Kd.R_bound h) (fun k hk => ⟨hk.2.1, hk.2.2.1⟩)) hb
theorem S_ivl {α : Type} {d : Kd α} {e b0 : Nat} {W W1 : World} {ok : Nat → Prop} {v : Value} {xs : List α} (h : Kd.S d e W1 W.heap.size ok v xs) (hb : b0 ≤ W.heap.size) : Kd.S d e W1 b0 (Iv W.heap.size W1.heap.size) v xs := Kd.S_lower (Kd.S_mono (Kd.S_bound h) (fun k hk => ⟨hk.2.1, hk.2.2.1⟩)) hb
theorem calls_len {P : Program} {f : FuncId} {A : Option Addr} {n n1 c : Nat} {x : Value} {w : World} {Q : Ending → World → Prop} (h : n = n1) (hc : Calls P f #[.slice A n1 c, x] w Q) : Calls P f #[.slice A n c, x] w Q := by rw [h]; exact hc
theorem drawn_below {w w' : World} (h : Drawn0 w w') : Below w.heap.size w w' := by
  obtain ⟨m, rfl⟩ := h
  exact pw_below_drewN (Below.refl _ _) m
def laws_FnExactGroupsOf.f (k : Nat) (l0 : List (S66)) (l1 : List (List Int)) : Option Bool := (laws_szTankS.f l0 1048576).bind fun z0 => if z0 < 0 then some true else (laws_szIntSS.f k l1 z0).bind fun z1 => if z1 < 0 then some true else (laws_toTankS.f k l0).bind fun x0 => (laws_toIntSS.f k l1).bind fun x1 => (spec_GroupsOf.f k x0 x1).bind fun wr => (impl_GroupsOf.f k x0 x1).bind fun gr => (laws_eqIntSS.f k gr.1 wr.1).bind fun e => if e = true ∧ gr.2 = wr.2 then (laws_eqTankS.f k x0 x0).bind fun e0 => if e0 = true then (laws_eqIntSS.f k x1 x1).bind fun e1 => if e1 = true then (laws_markTankS.f k x0 1).bind fun m0 => (laws_markIntSS.f k x1 m0.1).bind fun m1 => if m1.1 < 0 then some false else (laws_markIntSS.f k gr.1 1).bind fun mr => (laws_heldIntSS.f k mr.2 1).bind fun q => if q < 0 then some false else if q = mr.1 then some true else some false else some false else some false else some false
set_option maxHeartbeats 8000000 in
set_option maxRecDepth 100000 in
theorem laws_FnExactGroupsOf.main (k : Nat) (A0 : Option Addr) (c0 : Nat) (l0 : List (S66)) (A1 : Option Addr) (c1 : Nat) (l1 : List (List Int)) (z0 : Int) (x0 : List (S63)) (n0 : Int) (y0 : List (S63)) (z1 : Int) (x1 : List (List Int)) (n1 : Int) (y1 : List (List Int)) (wl gl gl' : List (List Int)) (wb : Bool) (m3 : Int) (w : World) (hr0 : Kd.C k66 w A0 l0.length l0) (hc0 : l0.length ≤ c0) (hr1 : Kd.C (Kd.slice 3 (Kd.int .i64)) w A1 l1.length l1) (hc1 : l1.length ≤ c1) (A_sz0 : laws_szTankS.f l0 1048576 = some z0) (hz0 : ¬ z0 < 0) (A_sz1 : laws_szIntSS.f k l1 z0 = some z1) (hz1 : ¬ z1 < 0) (A_to0 : laws_toTankS.f k l0 = some x0) (A_to1 : laws_toIntSS.f k l1 = some x1) (A_spec : spec_GroupsOf.f k x0 x1 = some (wl, wb)) (A_impl : impl_GroupsOf.f k x0 x1 = some (gl, wb)) (A_eqR : laws_eqIntSS.f k gl wl = some true) (A_eq0 : laws_eqTankS.f k x0 x0 = some true) (A_eq1 : laws_eqIntSS.f k x1 x1 = some true) (A_mark0 : laws_markTankS.f k x0 1 = some (n0, y0)) (A_mark1 : laws_markIntSS.f k x1 n0 = some (n1, y1)) (hm : ¬ n1 < 0) (A_markR : laws_markIntSS.f k gl 1 = some (m3, gl')) (A_held : laws_heldIntSS.f k gl' 1 = some m3) (hq : ¬ m3 < 0) :
    Calls Try.prog 8 #[.slice A0 l0.length c0, .slice A1 l1.length c1] w fun e w' => e = .returned (.bool true) ∧ Below w.heap.size w w' := by
  have HR0 := Aside0.mk hr0
  have HC0 := Aside0.mk hc0
  have HR1 := Aside0.mk hr1
  have HC1 := Aside0.mk hc1
  have HB := Aside0.mk (Below.refl w.heap.size w)
  have bz0 : decide (z0 < 0) = false := decide_eq_false hz0
  have bz1 : decide (z1 < 0) = false := decide_eq_false hz1
  have b2 : decide (n1 < 0) = false := decide_eq_false hm
  have b3 : decide (m3 < 0) = false := decide_eq_false hq
  have b4 : (wb != wb) = false := by simp
  have b5 : (m3 != m3) = false := by simp
  replace A_sz0 := Aside0.mk A_sz0
  replace A_sz1 := Aside0.mk A_sz1
  replace A_to0 := Aside0.mk A_to0
  replace A_to1 := Aside0.mk A_to1
  replace A_spec := Aside0.mk A_spec
  replace A_impl := Aside0.mk A_impl
  replace A_eqR := Aside0.mk A_eqR
  replace A_eq0 := Aside0.mk A_eq0
  replace A_eq1 := Aside0.mk A_eq1
  replace A_mark0 := Aside0.mk A_mark0
  replace A_mark1 := Aside0.mk A_mark1
  replace A_markR := Aside0.mk A_markR
  replace A_held := Aside0.mk A_held
  clear hr0 hc0 hr1 hc1 hz0 hz1 hm hq
  go_enter Try.func8, Try.ntmps8
  go_upto_region 5 with (first | (go_at_call 13; refine (laws_szTankS.calls A0 c0 l0 1048576 z0 _ (Kd.C_below HR0.out HB.out) HC0.out A_sz0.out).mono ?_; rintro e_ w1_ ⟨rfl, hd⟩; have hb := drawn_below hd; clear hd; have HZ1 := Aside0.mk hb.size; replace HB := Aside0.mk (below_then HB.out HB.out.size hb); clear hb))
  go_upto_region 8 with (first | (go_at_call 22; refine (laws_szIntSS.calls k A1 c1 l1 z0 z1 _ (Kd.C_below HR1.out HB.out) HC1.out A_sz1.out).mono ?_; rintro e_ w2_ ⟨rfl, hd⟩; have hb := drawn_below hd; clear hd; have HZ2 := Aside0.mk hb.size; replace HB := Aside0.mk (below_then HB.out HB.out.size hb); clear hb))
  go_upto_region 9 with (first | (go_at_call 15; refine (laws_toTankS.calls k A0 c0 l0 x0 _ (Kd.C_below HR0.out HB.out) HC0.out A_to0.out).mono ?_; rintro e_ w3_ ⟨v_X0_1, rfl, ho, hb⟩; obtain ⟨A_X0_1, c_X0_1, rfl⟩ := Kd.R_slice ho; have F_X0_1 := Aside0.mk (R_ivl ho HB.out.size); clear ho; have HZ3 := Aside0.mk hb.size; replace HB := Aside0.mk (below_then HB.out HB.out.size hb); clear hb) | (go_at_call 24; refine (laws_toIntSS.calls k A1 c1 l1 x1 _ (Kd.C_below HR1.out HB.out) HC1.out A_to1.out).mono ?_; rintro e_ w4_ ⟨v_X1_1, rfl, ho, hb⟩; replace F_X0_1 := Aside0.mk (Kd.R_below F_X0_1.out hb); obtain ⟨A_X1_1, c_X1_1, rfl⟩ := Kd.S_slice ho; have F_X1_1 := Aside0.mk (S_ivl ho HB.out.size); clear ho; have HZ4 := Aside0.mk hb.size; replace HB := Aside0.mk (below_then HB.out HB.out.size hb); clear hb) | (go_at_call 36; refine (spec_GroupsOf.calls k _ _ x0 _ _ x1 wl wb _ ((Kd.R_reads' F_X0_1.out).2.2) ((Kd.R_reads' F_X0_1.out).2.1) ((Kd.S_reads' F_X1_1.out).2.2) ((Kd.S_reads' F_X1_1.out).2.1) A_spec.out).mono ?_; rintro e_ w5_ ⟨v_W1, rfl, ho, hb⟩; replace F_X0_1 := Aside0.mk (Kd.R_below F_X0_1.out hb); replace F_X1_1 := Aside0.mk (Kd.S_below F_X1_1.out hb); obtain ⟨A_W1, c_W1, rfl⟩ := Kd.S_slice ho; have F_W1 := Aside0.mk (S_ivl ho HB.out.size); clear ho; have HZ5 := Aside0.mk hb.size; replace HB := Aside0.mk (below_then HB.out HB.out.size hb); clear hb; clear F_X0_1 F_X1_1))
  go_upto_region 10 with (first | (go_at_call 15; refine (laws_toTankS.calls k A0 c0 l0 x0 _ (Kd.C_below HR0.out HB.out) HC0.out A_to0.out).mono ?_; rintro e_ w6_ ⟨v_X0_2, rfl, ho, hb⟩; replace F_W1 := Aside0.mk (Kd.S_below F_W1.out hb); obtain ⟨A_X0_2, c_X0_2, rfl⟩ := Kd.R_slice ho; have F_X0_2 := Aside0.mk (R_ivl ho HB.out.size); clear ho; have HZ6 := Aside0.mk hb.size; replace HB := Aside0.mk (below_then HB.out HB.out.size hb); clear hb))
  go_upto_region 11 with (first | (go_at_call 24; refine (laws_toIntSS.calls k A1 c1 l1 x1 _ (Kd.C_below HR1.out HB.out) HC1.out A_to1.out).mono ?_; rintro e_ w7_ ⟨v_X1_2, rfl, ho, hb⟩; replace F_W1 := Aside0.mk (Kd.S_below F_W1.out hb); replace F_X0_2 := Aside0.mk (Kd.R_below F_X0_2.out hb); obtain ⟨A_X1_2, c_X1_2, rfl⟩ := Kd.S_slice ho; have F_X1_2 := Aside0.mk (S_ivl ho HB.out.size); clear ho; have HZ7 := Aside0.mk hb.size; replace HB := Aside0.mk (below_then HB.out HB.out.size hb); clear hb))
  go_upto_region 12 with (first | (go_at_call 37; refine (impl_GroupsOf.calls k _ _ x0 _ _ x1 gl wb _ ((Kd.R_reads' F_X0_2.out).2.2) ((Kd.R_reads' F_X0_2.out).2.1) ((Kd.S_reads' F_X1_2.out).2.2) ((Kd.S_reads' F_X1_2.out).2.1) A_impl.out).mono ?_; rintro e_ w8_ ⟨v_G, rfl, ho, hb⟩; replace F_W1 := Aside0.mk (Kd.S_below F_W1.out hb); replace F_X0_2 := Aside0.mk (Kd.R_below F_X0_2.out hb); replace F_X1_2 := Aside0.mk (Kd.S_below F_X1_2.out hb); obtain ⟨A_G, c_G, rfl⟩ := Kd.S_slice ho; have F_G := Aside0.mk (S_ivl ho HB.out.size); clear ho; have HZ8 := Aside0.mk hb.size; replace HB := Aside0.mk (below_then HB.out HB.out.size hb); clear hb))
  go_upto_region 14 with (first | (go_at_call 26; refine (laws_eqIntSS.calls k _ _ gl _ _ wl true _ ((Kd.S_reads' F_G.out).2.2) ((Kd.S_reads' F_G.out).2.1) ((Kd.S_reads' F_W1.out).2.2) ((Kd.S_reads' F_W1.out).2.1) A_eqR.out).mono ?_; rintro e_ w9_ ⟨rfl, hd⟩; have hb := drawn_below hd; clear hd; replace F_W1 := Aside0.mk (Kd.S_below F_W1.out hb); replace F_X0_2 := Aside0.mk (Kd.R_below F_X0_2.out hb); replace F_X1_2 := Aside0.mk (Kd.S_below F_X1_2.out hb); replace F_G := Aside0.mk (Kd.S_below F_G.out hb); have HZ9 := Aside0.mk hb.size; replace HB := Aside0.mk (below_then HB.out HB.out.size hb); clear hb))
  go_upto_region 16 with (first | (go_at_call 15; refine (laws_toTankS.calls k A0 c0 l0 x0 _ (Kd.C_below HR0.out HB.out) HC0.out A_to0.out).mono ?_; rintro e_ w10_ ⟨v_X0_3, rfl, ho, hb⟩; replace F_W1 := Aside0.mk (Kd.S_below F_W1.out hb); replace F_X0_2 := Aside0.mk (Kd.R_below F_X0_2.out hb); replace F_X1_2 := Aside0.mk (Kd.S_below F_X1_2.out hb); replace F_G := Aside0.mk (Kd.S_below F_G.out hb); obtain ⟨A_X0_3, c_X0_3, rfl⟩ := Kd.R_slice ho; have F_X0_3 := Aside0.mk (R_ivl ho HB.out.size); clear ho; have HZ10 := Aside0.mk hb.size; replace HB := Aside0.mk (below_then HB.out HB.out.size hb); clear hb) | (go_at_call 18; refine (laws_eqTankS.calls k _ _ x0 _ _ x0 true _ ((Kd.R_reads' F_X0_2.out).2.2) ((Kd.R_reads' F_X0_2.out).2.1) ((Kd.R_reads' F_X0_3.out).2.2) ((Kd.R_reads' F_X0_3.out).2.1) A_eq0.out).mono ?_; rintro e_ w11_ ⟨rfl, hb⟩; replace F_W1 := Aside0.mk (Kd.S_below F_W1.out hb); replace F_X0_2 := Aside0.mk (Kd.R_below F_X0_2.out hb); replace F_X1_2 := Aside0.mk (Kd.S_below F_X1_2.out hb); replace F_G := Aside0.mk (Kd.S_below F_G.out hb); replace F_X0_3 := Aside0.mk (Kd.R_below F_X0_3.out hb); have HZ11 := Aside0.mk hb.size; replace HB := Aside0.mk (below_then HB.out HB.out.size hb); clear hb; clear F_X0_3))
  go_upto_region 19 with (first | (go_at_call 24; refine (laws_toIntSS.calls k A1 c1 l1 x1 _ (Kd.C_below HR1.out HB.out) HC1.out A_to1.out).mono ?_; rintro e_ w12_ ⟨v_X1_3, rfl, ho, hb⟩; replace F_W1 := Aside0.mk (Kd.S_below F_W1.out hb); replace F_X0_2 := Aside0.mk (Kd.R_below F_X0_2.out hb); replace F_X1_2 := Aside0.mk (Kd.S_below F_X1_2.out hb); replace F_G := Aside0.mk (Kd.S_below F_G.out hb); obtain ⟨A_X1_3, c_X1_3, rfl⟩ := Kd.S_slice ho; have F_X1_3 := Aside0.mk (S_ivl ho HB.out.size); clear ho; have HZ12 := Aside0.mk hb.size; replace HB := Aside0.mk (below_then HB.out HB.out.size hb); clear hb) | (go_at_call 26; refine (laws_eqIntSS.calls k _ _ x1 _ _ x1 true _ ((Kd.S_reads' F_X1_2.out).2.2) ((Kd.S_reads' F_X1_2.out).2.1) ((Kd.S_reads' F_X1_3.out).2.2) ((Kd.S_reads' F_X1_3.out).2.1) A_eq1.out).mono ?_; rintro e_ w13_ ⟨rfl, hd⟩; have hb := drawn_below hd; clear hd; replace F_W1 := Aside0.mk (Kd.S_below F_W1.out hb); replace F_X0_2 := Aside0.mk (Kd.R_below F_X0_2.out hb); replace F_X1_2 := Aside0.mk (Kd.S_below F_X1_2.out hb); replace F_G := Aside0.mk (Kd.S_below F_G.out hb); replace F_X1_3 := Aside0.mk (Kd.S_below F_X1_3.out hb); have HZ13 := Aside0.mk hb.size; replace HB := Aside0.mk (below_then HB.out HB.out.size hb); clear hb; clear F_X1_3))
  go_upto_region 20 with (first | (go_at_call 19; refine (laws_markTankS.calls k (Iv w5_.heap.size w6_.heap.size) _ x0 1 n0 y0 w _ HB.out F_X0_2.out A_mark0.out).mono ?_; rintro e_ w14_ ⟨rfl, ho, hB, hK⟩; have HZ14 := Aside0.mk hK.1; replace F_W1 := Aside0.mk (Kd.S_kept F_W1.out hK (fun k_ h1_ h2_ => h1_.apart h2_ (by have z1_ := HZ1.out; have z2_ := HZ2.out; have z3_ := HZ3.out; have z4_ := HZ4.out; have z5_ := HZ5.out; have z6_ := HZ6.out; have z7_ := HZ7.out; have z8_ := HZ8.out; have z9_ := HZ9.out; have z10_ := HZ10.out; have z11_ := HZ11.out; have z12_ := HZ12.out; have z13_ := HZ13.out; have z14_ := HZ14.out; omega))); replace F_X1_2 := Aside0.mk (Kd.S_kept F_X1_2.out hK (fun k_ h1_ h2_ => h1_.apart h2_ (by have z1_ := HZ1.out; have z2_ := HZ2.out; have z3_ := HZ3.out; have z4_ := HZ4.out; have z5_ := HZ5.out; have z6_ := HZ6.out; have z7_ := HZ7.out; have z8_ := HZ8.out; have z9_ := HZ9.out; have z10_ := HZ10.out; have z11_ := HZ11.out; have z12_ := HZ12.out; have z13_ := HZ13.out; have z14_ := HZ14.out; omega))); replace F_G := Aside0.mk (Kd.S_kept F_G.out hK (fun k_ h1_ h2_ => h1_.apart h2_ (by have z1_ := HZ1.out; have z2_ := HZ2.out; have z3_ := HZ3.out; have z4_ := HZ4.out; have z5_ := HZ5.out; have z6_ := HZ6.out; have z7_ := HZ7.out; have z8_ := HZ8.out; have z9_ := HZ9.out; have z10_ := HZ10.out; have z11_ := HZ11.out; have z12_ := HZ12.out; have z13_ := HZ13.out; have z14_ := HZ14.out; omega))); clear F_X0_2; replace HB := Aside0.mk hB; clear ho hB hK))
  go_upto_region 21 with (first | (go_at_call 31; refine (laws_markIntSS.calls k (Iv w6_.heap.size w7_.heap.size) _ _ x1 n0 n1 y1 w _ HB.out F_X1_2.out A_mark1.out).mono ?_; rintro e_ w15_ ⟨rfl, ho, hB, hK⟩; have HZ15 := Aside0.mk hK.1; replace F_W1 := Aside0.mk (Kd.S_kept F_W1.out hK (fun k_ h1_ h2_ => h1_.apart h2_ (by have z1_ := HZ1.out; have z2_ := HZ2.out; have z3_ := HZ3.out; have z4_ := HZ4.out; have z5_ := HZ5.out; have z6_ := HZ6.out; have z7_ := HZ7.out; have z8_ := HZ8.out; have z9_ := HZ9.out; have z10_ := HZ10.out; have z11_ := HZ11.out; have z12_ := HZ12.out; have z13_ := HZ13.out; have z14_ := HZ14.out; have z15_ := HZ15.out; omega))); replace F_G := Aside0.mk (Kd.S_kept F_G.out hK (fun k_ h1_ h2_ => h1_.apart h2_ (by have z1_ := HZ1.out; have z2_ := HZ2.out; have z3_ := HZ3.out; have z4_ := HZ4.out; have z5_ := HZ5.out; have z6_ := HZ6.out; have z7_ := HZ7.out; have z8_ := HZ8.out; have z9_ := HZ9.out; have z10_ := HZ10.out; have z11_ := HZ11.out; have z12_ := HZ12.out; have z13_ := HZ13.out; have z14_ := HZ14.out; have z15_ := HZ15.out; omega))); clear F_X1_2; replace HB := Aside0.mk hB; clear ho hB hK))
  go_upto_region 24 with (first | (go_at_call 26; refine (laws_eqIntSS.calls k _ _ gl _ _ wl true _ ((Kd.S_reads' F_G.out).2.2) ((Kd.S_reads' F_G.out).2.1) ((Kd.S_reads' F_W1.out).2.2) ((Kd.S_reads' F_W1.out).2.1) A_eqR.out).mono ?_; rintro e_ w16_ ⟨rfl, hd⟩; have hb := drawn_below hd; clear hd; replace F_W1 := Aside0.mk (Kd.S_below F_W1.out hb); replace F_G := Aside0.mk (Kd.S_below F_G.out hb); have HZ16 := Aside0.mk hb.size; replace HB := Aside0.mk (below_then HB.out HB.out.size hb); clear hb))
  go_upto_region 26 with (first | (go_at_call 31; refine (laws_markIntSS.calls k (Iv w7_.heap.size w8_.heap.size) _ _ gl 1 m3 gl' w _ HB.out F_G.out A_markR.out).mono ?_; rintro e_ w17_ ⟨rfl, ho, hB, hK⟩; have HZ17 := Aside0.mk hK.1; replace F_W1 := Aside0.mk (Kd.S_kept F_W1.out hK (fun k_ h1_ h2_ => h1_.apart h2_ (by have z1_ := HZ1.out; have z2_ := HZ2.out; have z3_ := HZ3.out; have z4_ := HZ4.out; have z5_ := HZ5.out; have z6_ := HZ6.out; have z7_ := HZ7.out; have z8_ := HZ8.out; have z9_ := HZ9.out; have z10_ := HZ10.out; have z11_ := HZ11.out; have z12_ := HZ12.out; have z13_ := HZ13.out; have z14_ := HZ14.out; have z15_ := HZ15.out; have z16_ := HZ16.out; have z17_ := HZ17.out; omega))); replace F_G := Aside0.mk ho; have HN_G := Aside0.mk (Kd.S_reads' F_G.out).1; replace HB := Aside0.mk hB; clear ho hB hK))
  go_upto_region 31 with (first | (go_at_call 38; refine (calls_len HN_G.out (laws_heldIntSS.calls k _ _ gl' 1 m3 _ ((Kd.S_reads' F_G.out).2.2) (Nat.le_trans (Nat.le_of_eq HN_G.out.symm) (Kd.S_reads' F_G.out).2.1) A_held.out)).mono ?_; rintro e_ w18_ ⟨rfl, hd⟩; have hb := drawn_below hd; clear hd; replace F_W1 := Aside0.mk (Kd.S_below F_W1.out hb); replace F_G := Aside0.mk (Kd.S_below F_G.out hb); have HZ18 := Aside0.mk hb.size; replace HB := Aside0.mk (below_then HB.out HB.out.size hb); clear hb))
  go_upto_region 32 with (first | (go_at_call 15; refine (laws_toTankS.calls k A0 c0 l0 x0 _ (Kd.C_below HR0.out HB.out) HC0.out A_to0.out).mono ?_; rintro e_ w19_ ⟨v_X0_4, rfl, ho, hb⟩; replace F_W1 := Aside0.mk (Kd.S_below F_W1.out hb); replace F_G := Aside0.mk (Kd.S_below F_G.out hb); obtain ⟨A_X0_4, c_X0_4, rfl⟩ := Kd.R_slice ho; have F_X0_4 := Aside0.mk (R_ivl ho HB.out.size); clear ho; have HZ19 := Aside0.mk hb.size; replace HB := Aside0.mk (below_then HB.out HB.out.size hb); clear hb) | (go_at_call 24; refine (laws_toIntSS.calls k A1 c1 l1 x1 _ (Kd.C_below HR1.out HB.out) HC1.out A_to1.out).mono ?_; rintro e_ w20_ ⟨v_X1_4, rfl, ho, hb⟩; replace F_W1 := Aside0.mk (Kd.S_below F_W1.out hb); replace F_G := Aside0.mk (Kd.S_below F_G.out hb); replace F_X0_4 := Aside0.mk (Kd.R_below F_X0_4.out hb); obtain ⟨A_X1_4, c_X1_4, rfl⟩ := Kd.S_slice ho; have F_X1_4 := Aside0.mk (S_ivl ho HB.out.size); clear ho; have HZ20 := Aside0.mk hb.size; replace HB := Aside0.mk (below_then HB.out HB.out.size hb); clear hb) | (go_at_call 37; refine (impl_GroupsOf.calls k _ _ x0 _ _ x1 gl wb _ ((Kd.R_reads' F_X0_4.out).2.2) ((Kd.R_reads' F_X0_4.out).2.1) ((Kd.S_reads' F_X1_4.out).2.2) ((Kd.S_reads' F_X1_4.out).2.1) A_impl.out).mono ?_; rintro e_ w21_ ⟨v_H, rfl, ho, hb⟩; replace F_W1 := Aside0.mk (Kd.S_below F_W1.out hb); replace F_G := Aside0.mk (Kd.S_below F_G.out hb); replace F_X0_4 := Aside0.mk (Kd.R_below F_X0_4.out hb); replace F_X1_4 := Aside0.mk (Kd.S_below F_X1_4.out hb); obtain ⟨A_H, c_H, rfl⟩ := Kd.S_slice ho; have F_H := Aside0.mk (S_ivl ho HB.out.size); clear ho; have HZ21 := Aside0.mk hb.size; replace HB := Aside0.mk (below_then HB.out HB.out.size hb); clear hb; clear F_X0_4 F_X1_4))
  go_upto_region 35 with (first | (go_at_call 26; refine (laws_eqIntSS.calls k _ _ gl _ _ wl true _ ((Kd.S_reads' F_H.out).2.2) ((Kd.S_reads' F_H.out).2.1) ((Kd.S_reads' F_W1.out).2.2) ((Kd.S_reads' F_W1.out).2.1) A_eqR.out).mono ?_; rintro e_ w22_ ⟨rfl, hd⟩; have hb := drawn_below hd; clear hd; replace F_W1 := Aside0.mk (Kd.S_below F_W1.out hb); replace F_G := Aside0.mk (Kd.S_below F_G.out hb); replace F_H := Aside0.mk (Kd.S_below F_H.out hb); have HZ22 := Aside0.mk hb.size; replace HB := Aside0.mk (below_then HB.out HB.out.size hb); clear hb))
  go_wp2_with (first | (go_at_call 38; refine (calls_len HN_G.out (laws_heldIntSS.calls k _ _ gl' 1 m3 _ ((Kd.S_reads' F_G.out).2.2) (Nat.le_trans (Nat.le_of_eq HN_G.out.symm) (Kd.S_reads' F_G.out).2.1) A_held.out)).mono ?_; rintro e_ w23_ ⟨rfl, hd⟩; have hb := drawn_below hd; clear hd; replace F_W1 := Aside0.mk (Kd.S_below F_W1.out hb); replace F_G := Aside0.mk (Kd.S_below F_G.out hb); replace F_H := Aside0.mk (Kd.S_below F_H.out hb); have HZ23 := Aside0.mk hb.size; replace HB := Aside0.mk (below_then HB.out HB.out.size hb); clear hb))
  go_ret
  exact ⟨by first | rfl | simp, HB.out⟩
set_option maxHeartbeats 8000000 in
set_option maxRecDepth 100000 in
theorem laws_FnExactGroupsOf.calls (k : Nat) (A0 : Option Addr) (c0 : Nat) (l0 : List (S66)) (A1 : Option Addr) (c1 : Nat) (l1 : List (List Int)) (w : World) (hr0 : Kd.C k66 w A0 l0.length l0) (hc0 : l0.length ≤ c0) (hr1 : Kd.C (Kd.slice 3 (Kd.int .i64)) w A1 l1.length l1) (hc1 : l1.length ≤ c1) (h : laws_FnExactGroupsOf.f k l0 l1 = some true) :
    Calls Try.prog 8 #[.slice A0 l0.length c0, .slice A1 l1.length c1] w fun e w' => e = .returned (.bool true) ∧ Below w.heap.size w w' := by
  unfold laws_FnExactGroupsOf.f at h
  replace h := Option.bind_eq_some_iff.mp h
  obtain ⟨z0, A_sz0, h⟩ := h
  by_cases hz0 : z0 < 0
  · have bz0 : decide (z0 < 0) = true := decide_eq_true hz0
    have HB := Aside0.mk (Below.refl w.heap.size w)
    have HR0 := Aside0.mk hr0
    have HC0 := Aside0.mk hc0
    have HR1 := Aside0.mk hr1
    have HC1 := Aside0.mk hc1
    replace A_sz0 := Aside0.mk A_sz0
    clear h hr0 hc0 hr1 hc1 hz0
    go_enter Try.func8, Try.ntmps8
    go_wp2_with (first | (go_at_call 13; refine (laws_szTankS.calls A0 c0 l0 1048576 z0 _ (Kd.C_below HR0.out HB.out) HC0.out A_sz0.out).mono ?_; rintro e_ w1_ ⟨rfl, hd⟩; have hb := drawn_below hd; clear hd; have HZ1 := Aside0.mk hb.size; replace HB := Aside0.mk (below_then HB.out HB.out.size hb); clear hb))
    go_ret
    exact ⟨by first | rfl | simp, HB.out⟩
  rw [if_neg hz0] at h
  replace h := Option.bind_eq_some_iff.mp h
  obtain ⟨z1, A_sz1, h⟩ := h
  by_cases hz1 : z1 < 0
  · have bz0 : decide (z0 < 0) = false := decide_eq_false hz0
    have bz1 : decide (z1 < 0) = true := decide_eq_true hz1
    have HB := Aside0.mk (Below.refl w.heap.size w)
    have HR0 := Aside0.mk hr0
    have HC0 := Aside0.mk hc0
    have HR1 := Aside0.mk hr1
    have HC1 := Aside0.mk hc1
    replace A_sz0 := Aside0.mk A_sz0
    replace A_sz1 := Aside0.mk A_sz1
    clear h hr0 hc0 hr1 hc1 hz0 hz1
    go_enter Try.func8, Try.ntmps8
    go_upto_region 5 with (first | (go_at_call 13; refine (laws_szTankS.calls A0 c0 l0 1048576 z0 _ (Kd.C_below HR0.out HB.out) HC0.out A_sz0.out).mono ?_; rintro e_ w1_ ⟨rfl, hd⟩; have hb := drawn_below hd; clear hd; have HZ1 := Aside0.mk hb.size; replace HB := Aside0.mk (below_then HB.out HB.out.size hb); clear hb))
    go_wp2_with (first | (go_at_call 22; refine (laws_szIntSS.calls k A1 c1 l1 z0 z1 _ (Kd.C_below HR1.out HB.out) HC1.out A_sz1.out).mono ?_; rintro e_ w2_ ⟨rfl, hd⟩; have hb := drawn_below hd; clear hd; have HZ2 := Aside0.mk hb.size; replace HB := Aside0.mk (below_then HB.out HB.out.size hb); clear hb))
    go_ret
    exact ⟨by first | rfl | simp, HB.out⟩
  rw [if_neg hz1] at h
  replace h := Option.bind_eq_some_iff.mp h
  obtain ⟨x0, A_to0, h⟩ := h
  replace h := Option.bind_eq_some_iff.mp h
  obtain ⟨x1, A_to1, h⟩ := h
  replace h := Option.bind_eq_some_iff.mp h
  obtain ⟨⟨wl, wb⟩, A_spec, h⟩ := h
  replace h := Option.bind_eq_some_iff.mp h
  obtain ⟨⟨gl, gb⟩, A_impl, h⟩ := h
  replace h := Option.bind_eq_some_iff.mp h
  obtain ⟨e, A_eqR, h⟩ := h
  dsimp only at h A_eqR
  by_cases c1 : e = true ∧ gb = wb
  case neg => rw [if_neg c1] at h; exact absurd h (by simp)
  rw [if_pos c1] at h
  obtain ⟨rfl, rfl⟩ := c1
  replace h := Option.bind_eq_some_iff.mp h
  obtain ⟨e0, A_eq0, h⟩ := h
  by_cases d0 : e0 = true
  case neg => rw [if_neg d0] at h; exact absurd h (by simp)
  rw [if_pos d0] at h
  subst d0
  replace h := Option.bind_eq_some_iff.mp h
  obtain ⟨e1, A_eq1, h⟩ := h
  by_cases d1 : e1 = true
  case neg => rw [if_neg d1] at h; exact absurd h (by simp)
  rw [if_pos d1] at h
  subst d1
  replace h := Option.bind_eq_some_iff.mp h
  obtain ⟨⟨n0, y0⟩, A_mark0, h⟩ := h
  dsimp only at h A_mark0
  replace h := Option.bind_eq_some_iff.mp h
  obtain ⟨⟨n1, y1⟩, A_mark1, h⟩ := h
  dsimp only at h A_mark1
  by_cases hm : n1 < 0
  · rw [if_pos hm] at h; exact absurd h (by simp)
  rw [if_neg hm] at h
  replace h := Option.bind_eq_some_iff.mp h
  obtain ⟨⟨m3, gl'⟩, A_markR, h⟩ := h
  replace h := Option.bind_eq_some_iff.mp h
  obtain ⟨q, A_held, h⟩ := h
  dsimp only at h A_held
  by_cases hq : q < 0
  · rw [if_pos hq] at h; exact absurd h (by simp)
  rw [if_neg hq] at h
  by_cases c4 : q = m3
  case neg => rw [if_neg c4] at h; exact absurd h (by simp)
  subst c4
  exact laws_FnExactGroupsOf.main k A0 c0 l0 A1 c1 l1 z0 x0 n0 y0 z1 x1 n1 y1 wl gl gl' _ q w hr0 hc0 hr1 hc1 A_sz0 hz0 A_sz1 hz1 A_to0 A_to1 A_spec A_impl A_eqR A_eq0 A_eq1 A_mark0 A_mark1 hm A_markR A_held hq

end Go.Proofs.Ytedkbaadbnpkoaa.PFnExactGroupsOf

/- Lean functions of the Go functions that the law FnExactBlendAmounts reaches, and the proofs that the calls come to what they say (made by program). -/
import Derived.Test.YtpgjoagbmljmnaaAb
import Derived.Test.YtpgjoagbmljmnaaPFnExactBlendAmountsx0
namespace Go.Proofs.Ytpgjoagbmljmnaa.PFnExactBlendAmounts
open Go.RowKit Go.Proofs.YtpgjoagbmljmnaaW.PrintWords Go.Proofs.YtpgjoagbmljmnaaW.PrintLast Go.Proofs.YtpgjoagbmljmnaaW.PrintMore Go.Proofs.Ytpgjoagbmljmnaa.Ab
attribute [local go_sem] max2_int min2_int max_two min_two max_three min_three max_four min_four   -- for this text's walks alone
set_option linter.unusedVariables false
set_option linter.unusedSimpArgs false

/-! ### impl_within: function 47 -/
def impl_within.f (a0 : Int) (a1 : Int) (a2 : Int) : Option (Bool) := if a1 ≤ a0 then (some (decide (a0 ≤ a2))) else (some false)
set_option maxHeartbeats 8000000 in
set_option maxRecDepth 100000 in
theorem impl_within.calls (a0 : Int) (a1 : Int) (a2 : Int) (r : Bool) (w : World) (h : impl_within.f a0 a1 a2 = some r) :
    Calls Try.prog 47 #[.int .i64 a0, .int .i64 a1, .int .i64 a2] w fun e w' => e = .returned (.bool r) ∧ Drawn0 w w' := by
  have H : (if a1 ≤ a0 then (some (decide (a0 ≤ a2))) else (some false)) = some r := h
  clear h
  by_cases c4 : a1 ≤ a0
  · rw [if_pos c4] at H
    have c4b0 : decide (a1 ≤ a0) = true := decide_eq_true c4
    clear c4
    obtain rfl := Option.some.inj H
    go_enter Try.func47, Try.ntmps47
    go_wp2
    go_ret
    exact ⟨by first | rfl | (simp; done) | (simp [*]; done), by repeat (first | exact Drawn0.refl _ | apply Drawn0.step)⟩
  · rw [if_neg c4] at H
    have c4b0 : decide (a1 ≤ a0) = false := decide_eq_false c4
    clear c4
    obtain rfl := Option.some.inj H
    go_enter Try.func47, Try.ntmps47
    go_wp2
    go_ret
    exact ⟨by first | rfl | (simp; done) | (simp [*]; done), by repeat (first | exact Drawn0.refl _ | apply Drawn0.step)⟩

/-! ### impl_gcd: function 56 -/
def impl_gcd.l0 : Nat → Int → Int → Option (Int)
  | 0, _, _ => none
  | k + 1, x0, x1 => if x1 = 0 then (if x0 < 0 then (some (wrap64 (-x0))) else (some x0)) else (impl_gcd.l0 k x1 (Int.tmod x0 x1))
def impl_gcd.f (k : Nat) (a0 : Int) (a1 : Int) : Option (Int) := impl_gcd.l0 k a0 a1
theorem impl_gcd.mono_l : ∀ k, (∀ y0 y1, LeO (impl_gcd.l0 k y0 y1) (impl_gcd.l0 (k + 1) y0 y1))
  | 0 => fun _ _ r h => by simp [impl_gcd.l0] at h
  | k + 1 => by
    have ih0 := impl_gcd.mono_l k
    · intro y0 y1
      unfold impl_gcd.l0
      repeat' first
      | (with_reducible exact ih0 _ _)
      | (with_reducible exact LeO.refl _)
      | (with_reducible exact LeO.none _)
      | (with_reducible refine LeO.ite ?_ ?_)
      | (with_reducible refine LeO.bind ?_ (fun _ => ?_))
      | exact ih0 _ _
      | exact LeO.none _
      | refine LeO.ite ?_ ?_
      | refine LeO.bind ?_ (fun _ => ?_)
theorem impl_gcd.mono : ∀ a0 a1 k, LeO (impl_gcd.f k a0 a1) (impl_gcd.f (k + 1) a0 a1) := by
  intro a0 a1 k
  have ih0 := impl_gcd.mono_l k
  unfold impl_gcd.f
  repeat' first
      | (with_reducible exact ih0 _ _)
      | (with_reducible exact LeO.refl _)
      | (with_reducible exact LeO.none _)
      | (with_reducible refine LeO.ite ?_ ?_)
      | (with_reducible refine LeO.bind ?_ (fun _ => ?_))
      | exact ih0 _ _
      | exact LeO.none _
      | refine LeO.ite ?_ ?_
      | refine LeO.bind ?_ (fun _ => ?_)
set_option maxHeartbeats 8000000 in
set_option maxRecDepth 100000 in
theorem impl_gcd.calls (k : Nat) (a0 : Int) (a1 : Int) (r : Int) (w : World) (h : impl_gcd.f k a0 a1 = some r) :
    Calls Try.prog 56 #[.int .i64 a0, .int .i64 a1] w fun e w' => e = .returned (.int .i64 r) ∧ Drawn0 w w' := by
  have H : (impl_gcd.l0 k a0 a1) = some r := h
  clear h
  have H' := Aside0.mk H
  clear H
  go_enter Try.func56, Try.ntmps56
  go_wp2
  repeat (go_quiet (fail); try go_wp2)
  go_loopg [0, 1] k (fun kq v0 v1 w' => ∃ (x0_1 : Int) (x1_1 : Int), v0 = .int .i64 x0_1 ∧ v1 = .int .i64 x1_1 ∧ Aside0 (impl_gcd.l0 kq x0_1 x1_1 = some r) ∧ Aside0 (kq ≤ k) ∧ Drawn0 w w')
  case atStart => exact ⟨(a0), (a1), (by first | rfl | (simp; done) | (simp [*]; done)), (by first | rfl | (simp; done) | (simp [*]; done)), H', ⟨Nat.le_refl _⟩, by repeat (first | exact Drawn0.refl _ | apply Drawn0.step)⟩
  case round =>
    clear H'
    try clear p2
    obtain ⟨x0_1, x1_1, rfl, rfl, HA, HK1, ⟨m1, rfl⟩⟩ := hrel
    cases gk with
    | zero => exact absurd HA.out (by simp [impl_gcd.l0])
    | succ k1 =>
      have H := HA.out
      clear HA
      simp only [impl_gcd.l0] at H
      by_cases c3 : x1_1 = 0
      · rw [if_pos c3] at H
        have c3b0 : (x1_1 == 0) = true := beq_iff_eq.mpr c3
        have c3b1 : (x1_1 != 0) = false := bne_eq_false_iff_eq.mpr c3
        clear c3
        by_cases c4 : x0_1 < 0
        · rw [if_pos c4] at H
          have c4b0 : decide (x0_1 < 0) = true := decide_eq_true c4
          clear c4
          obtain rfl := Option.some.inj H
          go_wp2
          repeat (go_quiet (fail); try go_wp2)
          go_ret
          exact ⟨by first | rfl | (simp; done) | (simp [*]; done), by repeat (first | exact Drawn0.refl _ | apply Drawn0.step)⟩
        · rw [if_neg c4] at H
          have c4b0 : decide (x0_1 < 0) = false := decide_eq_false c4
          clear c4
          obtain rfl := Option.some.inj H
          go_wp2
          repeat (go_quiet (fail); try go_wp2)
          go_ret
          exact ⟨by first | rfl | (simp; done) | (simp [*]; done), by repeat (first | exact Drawn0.refl _ | apply Drawn0.step)⟩
      · rw [if_neg c3] at H
        have c3b0 : (x1_1 == 0) = false := beq_eq_false_iff_ne.mpr c3
        have c3b1 : (x1_1 != 0) = true := bne_iff_ne.mpr c3
        have H' := Aside0.mk H
        clear H
        go_wp2
        repeat (go_quiet (fail); try go_wp2)
        go_roundg k1
        case measure => have := HK1.out; omega
        case rel => exact ⟨(x1_1), (Int.tmod x0_1 x1_1), (by first | rfl | (simp; done) | (simp [*]; done)), (by first | rfl | (simp; done) | (simp [*]; done)), H', ⟨by have := HK1.out; omega⟩, by repeat (first | exact Drawn0.refl _ | apply Drawn0.step)⟩

/-! ### impl_IsRatio: function 29 -/
def impl_IsRatio.f (k : Nat) (a0_0 : Int) (a0_1 : Int) : Option (Bool) := (impl_within.f a0_1 1 1000000000).bind fun t155 => (if t155 = true then ((impl_within.f a0_0 (-1000000000) 1000000000).bind fun t156 => (if t156 = true then ((impl_gcd.f k a0_0 a0_1).bind fun t157 => (some (t157 == 1))) else (some false))) else (some false))
theorem impl_IsRatio.mono : ∀ a0 a1 k, LeO (impl_IsRatio.f k a0 a1) (impl_IsRatio.f (k + 1) a0 a1) := by
  intro a0 a1 k
  unfold impl_IsRatio.f
  repeat' first
      | (with_reducible exact impl_gcd.mono _ _ _)
      | (with_reducible exact LeO.refl _)
      | (with_reducible exact LeO.none _)
      | (with_reducible refine LeO.ite ?_ ?_)
      | (with_reducible refine LeO.bind ?_ (fun _ => ?_))
      | exact impl_gcd.mono _ _ _
      | exact LeO.none _
      | refine LeO.ite ?_ ?_
      | refine LeO.bind ?_ (fun _ => ?_)
set_option maxHeartbeats 8000000 in
set_option maxRecDepth 100000 in
theorem impl_IsRatio.calls (k : Nat) (a0_0 : Int) (a0_1 : Int) (r : Bool) (w : World) (h : impl_IsRatio.f k a0_0 a0_1 = some r) :
    Calls Try.prog 29 #[.agg #[.int .i64 a0_0, .int .i64 a0_1]] w fun e w' => e = .returned (.bool r) ∧ Below w.heap.size w w' := by
  have hu42 := Try.underlying42
  have HB := Aside0.mk (Below.refl w.heap.size w)
  have H : ((impl_within.f a0_1 1 1000000000).bind fun t155 => (if t155 = true then ((impl_within.f a0_0 (-1000000000) 1000000000).bind fun t156 => (if t156 = true then ((impl_gcd.f k a0_0 a0_1).bind fun t157 => (some (t157 == 1))) else (some false))) else (some false))) = some r := h
  clear h
  replace H := Option.bind_eq_some_iff.mp H
  obtain ⟨t155, A20, H⟩ := H
  replace H : (if t155 = true then ((impl_within.f a0_0 (-1000000000) 1000000000).bind fun t156 => (if t156 = true then ((impl_gcd.f k a0_0 a0_1).bind fun t157 => (some (t157 == 1))) else (some false))) else (some false)) = some r := H
  have A2 := Aside0.mk A20
  clear A20
  by_cases c3 : t155 = true
  · subst c3
    have H1 : ((impl_within.f a0_0 (-1000000000) 1000000000).bind fun t156 => (if t156 = true then ((impl_gcd.f k a0_0 a0_1).bind fun t157 => (some (t157 == 1))) else (some false))) = some r := by rw [if_pos rfl] at H; exact H
    clear H
    have H := H1
    clear H1
    replace H := Option.bind_eq_some_iff.mp H
    obtain ⟨t156, A40, H⟩ := H
    replace H : (if t156 = true then ((impl_gcd.f k a0_0 a0_1).bind fun t157 => (some (t157 == 1))) else (some false)) = some r := H
    have A4 := Aside0.mk A40
    clear A40
    by_cases c5 : t156 = true
    · subst c5
      have H1 : ((impl_gcd.f k a0_0 a0_1).bind fun t157 => (some (t157 == 1))) = some r := by rw [if_pos rfl] at H; exact H
      clear H
      have H := H1
      clear H1
      replace H := Option.bind_eq_some_iff.mp H
      obtain ⟨t157, A60, H⟩ := H
      replace H : (some (t157 == 1)) = some r := H
      have A6 := Aside0.mk A60
      clear A60
      obtain rfl := Option.some.inj H
      go_enter Try.func29, Try.ntmps29
      go_wp2_with (first | ((with_reducible refine gate_dst (N := 1) rfl ?_); refine box_event ?hg (N := 1) ?hd (cs := #[.int .i64 a0_0, .int .i64 a0_1]) (t := 42) ?hr ?_; (case hd => rfl); (case hg => rfl); (case hr => first | (go_simp; done) | (go_simp; rfl)); intro gb154 hg w7 hbox hb; have n0_ := Aside0.mk (below_step (xs HB.out) hb); have n1_ := Aside0.mk (hbox); have n2_ := Aside0.mk ((by rw [hg]; exact (below_size (xs HB.out)) : w.heap.size ≤ gb154)); have n3_ := Aside0.mk ((by rw [hg]; exact (below_size (xs HB.out)) : w.heap.size ≤ gb154)); clear HB; have HB := n0_; have BK154 := n1_; have GW154 := n2_; have GE154 := n3_; clear n0_ n1_ n2_ n3_; clear hb hbox hg; have hcz8_0 : w7.cell? ⟨gb154, 0, none⟩ = some (.int .i64 a0_0) := (blk_cell BK154.out 0).trans rfl; have hcz8_1 : w7.cell? ⟨gb154, 1, none⟩ = some (.int .i64 a0_1) := (blk_cell BK154.out 1).trans rfl; have hfz8_0 := blk_frozen BK154.out 0; have hfz8_1 := blk_frozen BK154.out 1) | ((with_reducible refine gate_callee (f := 47) rfl ?_); refine goesL_ (some 5) rfl rfl Try.func47 (by kernel_rfl) rfl #[.int .i64 a0_1, .int .i64 1, .int .i64 1000000000] rfl (by (try simp only [List.map_toArray, List.map_cons, List.map_nil]); first | done | rfl | (simp only [List.length_drop, List.length_take]; rfl)) ?_; (with_reducible refine (impl_within.calls a0_1 1 1000000000 true _ A2.out).mono ?_); rintro e w' ⟨rfl, ⟨nd, rfl⟩⟩; refine ⟨_, rfl, ?_⟩) | (go_at_call 47; (with_reducible refine (impl_within.calls a0_0 (-1000000000) 1000000000 true _ A4.out).mono ?_); rintro e w' ⟨rfl, ⟨nd, rfl⟩⟩) | (go_at_call 56; (with_reducible refine (impl_gcd.calls k a0_0 a0_1 t157 _ A6.out).mono ?_); rintro e w' ⟨rfl, ⟨nd, rfl⟩⟩))
      go_ret
      exact ⟨by first | rfl | (simp [errW_none, errW_some] <;> rfl) | (simp [*, errW_none, errW_some] <;> rfl), by repeat (first | (with_reducible first | exact HB.out | apply below_alloc | apply pw_below_drewN | apply below_drew1 | refine below_set ?_ GE154.out) | exact HB.out)⟩
    · replace c5 := Bool.eq_false_iff.mpr c5
      subst c5
      have H1 : (some false) = some r := by rw [if_neg (show ¬ (false = true) by decide)] at H; exact H
      clear H
      have H := H1
      clear H1
      obtain rfl := Option.some.inj H
      go_enter Try.func29, Try.ntmps29
      go_wp2_with (first | ((with_reducible refine gate_dst (N := 1) rfl ?_); refine box_event ?hg (N := 1) ?hd (cs := #[.int .i64 a0_0, .int .i64 a0_1]) (t := 42) ?hr ?_; (case hd => rfl); (case hg => rfl); (case hr => first | (go_simp; done) | (go_simp; rfl)); intro gb154 hg w9 hbox hb; have n0_ := Aside0.mk (below_step (xs HB.out) hb); have n1_ := Aside0.mk (hbox); have n2_ := Aside0.mk ((by rw [hg]; exact (below_size (xs HB.out)) : w.heap.size ≤ gb154)); have n3_ := Aside0.mk ((by rw [hg]; exact (below_size (xs HB.out)) : w.heap.size ≤ gb154)); clear HB; have HB := n0_; have BK154 := n1_; have GW154 := n2_; have GE154 := n3_; clear n0_ n1_ n2_ n3_; clear hb hbox hg; have hcz10_0 : w9.cell? ⟨gb154, 0, none⟩ = some (.int .i64 a0_0) := (blk_cell BK154.out 0).trans rfl; have hcz10_1 : w9.cell? ⟨gb154, 1, none⟩ = some (.int .i64 a0_1) := (blk_cell BK154.out 1).trans rfl; have hfz10_0 := blk_frozen BK154.out 0; have hfz10_1 := blk_frozen BK154.out 1) | ((with_reducible refine gate_callee (f := 47) rfl ?_); refine goesL_ (some 5) rfl rfl Try.func47 (by kernel_rfl) rfl #[.int .i64 a0_1, .int .i64 1, .int .i64 1000000000] rfl (by (try simp only [List.map_toArray, List.map_cons, List.map_nil]); first | done | rfl | (simp only [List.length_drop, List.length_take]; rfl)) ?_; (with_reducible refine (impl_within.calls a0_1 1 1000000000 true _ A2.out).mono ?_); rintro e w' ⟨rfl, ⟨nd, rfl⟩⟩; refine ⟨_, rfl, ?_⟩) | (go_at_call 47; (with_reducible refine (impl_within.calls a0_0 (-1000000000) 1000000000 false _ A4.out).mono ?_); rintro e w' ⟨rfl, ⟨nd, rfl⟩⟩))
      go_ret
      exact ⟨by first | rfl | (simp [errW_none, errW_some] <;> rfl) | (simp [*, errW_none, errW_some] <;> rfl), by repeat (first | (with_reducible first | exact HB.out | apply below_alloc | apply pw_below_drewN | apply below_drew1 | refine below_set ?_ GE154.out) | exact HB.out)⟩
  · replace c3 := Bool.eq_false_iff.mpr c3
    subst c3
    have H1 : (some false) = some r := by rw [if_neg (show ¬ (false = true) by decide)] at H; exact H
    clear H
    have H := H1
    clear H1
    obtain rfl := Option.some.inj H
    go_enter Try.func29, Try.ntmps29
    go_wp2_with (first | ((with_reducible refine gate_dst (N := 1) rfl ?_); refine box_event ?hg (N := 1) ?hd (cs := #[.int .i64 a0_0, .int .i64 a0_1]) (t := 42) ?hr ?_; (case hd => rfl); (case hg => rfl); (case hr => first | (go_simp; done) | (go_simp; rfl)); intro gb154 hg w11 hbox hb; have n0_ := Aside0.mk (below_step (xs HB.out) hb); have n1_ := Aside0.mk (hbox); have n2_ := Aside0.mk ((by rw [hg]; exact (below_size (xs HB.out)) : w.heap.size ≤ gb154)); have n3_ := Aside0.mk ((by rw [hg]; exact (below_size (xs HB.out)) : w.heap.size ≤ gb154)); clear HB; have HB := n0_; have BK154 := n1_; have GW154 := n2_; have GE154 := n3_; clear n0_ n1_ n2_ n3_; clear hb hbox hg; have hcz12_0 : w11.cell? ⟨gb154, 0, none⟩ = some (.int .i64 a0_0) := (blk_cell BK154.out 0).trans rfl; have hcz12_1 : w11.cell? ⟨gb154, 1, none⟩ = some (.int .i64 a0_1) := (blk_cell BK154.out 1).trans rfl; have hfz12_0 := blk_frozen BK154.out 0; have hfz12_1 := blk_frozen BK154.out 1) | ((with_reducible refine gate_callee (f := 47) rfl ?_); refine goesL_ (some 5) rfl rfl Try.func47 (by kernel_rfl) rfl #[.int .i64 a0_1, .int .i64 1, .int .i64 1000000000] rfl (by (try simp only [List.map_toArray, List.map_cons, List.map_nil]); first | done | rfl | (simp only [List.length_drop, List.length_take]; rfl)) ?_; (with_reducible refine (impl_within.calls a0_1 1 1000000000 false _ A2.out).mono ?_); rintro e w' ⟨rfl, ⟨nd, rfl⟩⟩; refine ⟨_, rfl, ?_⟩))
    go_ret
    exact ⟨by first | rfl | (simp [errW_none, errW_some] <;> rfl) | (simp [*, errW_none, errW_some] <;> rfl), by repeat (first | (with_reducible first | exact HB.out | apply below_alloc | apply pw_below_drewN | apply below_drew1 | refine below_set ?_ GE154.out) | exact HB.out)⟩

/-! ### impl_product: function 75 -/
def impl_product.f (a0 : Int) (a1 : Int) : Option (Int × Bool) := if a0 > 1000000000 then (some (0, false)) else (if a1 > 1000000000 then (some (0, false)) else (if (wrap64 (a0 * a1)) > 1000000000 then (some (0, false)) else (some (wrap64 (a0 * a1), true))))
set_option maxHeartbeats 8000000 in
set_option maxRecDepth 100000 in
theorem impl_product.calls (a0 : Int) (a1 : Int) (r1 : Int) (r2 : Bool) (w : World) (h : impl_product.f a0 a1 = some (r1, r2)) :
    Calls Try.prog 75 #[.int .i64 a0, .int .i64 a1] w fun e w' => e = .returned (.tuple #[.int .i64 r1, .bool r2]) ∧ Drawn0 w w' := by
  have H : (if a0 > 1000000000 then (some (0, false)) else (if a1 > 1000000000 then (some (0, false)) else (if (wrap64 (a0 * a1)) > 1000000000 then (some (0, false)) else (some (wrap64 (a0 * a1), true))))) = some (r1, r2) := h
  clear h
  by_cases c3 : a0 > 1000000000
  · rw [if_pos c3] at H
    have c3b0 : decide (1000000000 < a0) = true := decide_eq_true c3
    clear c3
    simp only [Option.some.injEq, Prod.mk.injEq] at H
    obtain ⟨rfl, rfl⟩ := H
    go_enter Try.func75, Try.ntmps75
    go_wp2
    go_ret2
    exact ⟨by first | rfl | (simp; done) | (simp [*]; done), by repeat (first | exact Drawn0.refl _ | apply Drawn0.step)⟩
  · rw [if_neg c3] at H
    have c3b0 : decide (1000000000 < a0) = false := decide_eq_false c3
    clear c3
    by_cases c4 : a1 > 1000000000
    · rw [if_pos c4] at H
      have c4b0 : decide (1000000000 < a1) = true := decide_eq_true c4
      clear c4
      simp only [Option.some.injEq, Prod.mk.injEq] at H
      obtain ⟨rfl, rfl⟩ := H
      go_enter Try.func75, Try.ntmps75
      go_wp2
      go_ret2
      exact ⟨by first | rfl | (simp; done) | (simp [*]; done), by repeat (first | exact Drawn0.refl _ | apply Drawn0.step)⟩
    · rw [if_neg c4] at H
      have c4b0 : decide (1000000000 < a1) = false := decide_eq_false c4
      clear c4
      by_cases c5 : (wrap64 (a0 * a1)) > 1000000000
      · rw [if_pos c5] at H
        have c5b0 : decide (1000000000 < (wrap64 (a0 * a1))) = true := decide_eq_true c5
        clear c5
        simp only [Option.some.injEq, Prod.mk.injEq] at H
        obtain ⟨rfl, rfl⟩ := H
        go_enter Try.func75, Try.ntmps75
        go_wp2
        go_ret2
        exact ⟨by first | rfl | (simp; done) | (simp [*]; done), by repeat (first | exact Drawn0.refl _ | apply Drawn0.step)⟩
      · rw [if_neg c5] at H
        have c5b0 : decide (1000000000 < (wrap64 (a0 * a1))) = false := decide_eq_false c5
        clear c5
        simp only [Option.some.injEq, Prod.mk.injEq] at H
        obtain ⟨rfl, rfl⟩ := H
        go_enter Try.func75, Try.ntmps75
        go_wp2
        go_ret2
        exact ⟨by first | rfl | (simp; done) | (simp [*]; done), by repeat (first | exact Drawn0.refl _ | apply Drawn0.step)⟩

/-! ### impl_BlendAmounts: function 45 -/
def impl_BlendAmounts.j0 : Nat → Bool → Int → Int → Int → Int → Int → Int → Option (Int × Int × Bool)
  | 0, _, _, _, _, _, _, _ => none
  | k + 1, x31, x159000, x159001, x160000, x160001, x161000, x161001 => if x31 = true then (some (0, 0, false)) else (if (wrap64 ((wrap64 (x159000 * x161001)) - (wrap64 (x161000 * x159001)))) = 0 then (some (1, 0, true)) else (if (wrap64 ((wrap64 (x161000 * x160001)) - (wrap64 (x160000 * x161001)))) = 0 then (some (0, 1, true)) else (if ((decide ((wrap64 ((wrap64 (x161000 * x160001)) - (wrap64 (x160000 * x161001)))) < 0)) != (decide ((wrap64 ((wrap64 (x159000 * x161001)) - (wrap64 (x161000 * x159001)))) < 0))) = true then (some (0, 0, false)) else ((impl_gcd.f k (mx (wrap64 ((wrap64 (x161000 * x160001)) - (wrap64 (x160000 * x161001)))) (wrap64 (-(wrap64 ((wrap64 (x161000 * x160001)) - (wrap64 (x160000 * x161001))))))) (mx (wrap64 ((wrap64 (x159000 * x161001)) - (wrap64 (x161000 * x159001)))) (wrap64 (-(wrap64 ((wrap64 (x159000 * x161001)) - (wrap64 (x161000 * x159001)))))))).bind fun t164 => ((impl_gcd.f k x159001 x160001).bind fun t165 => (if t164 = 0 then (none) else (if t165 = 0 then (none) else ((impl_gcd.f k (wrap64 (Int.tdiv (mx (wrap64 ((wrap64 (x161000 * x160001)) - (wrap64 (x160000 * x161001)))) (wrap64 (-(wrap64 ((wrap64 (x161000 * x160001)) - (wrap64 (x160000 * x161001))))))) t164)) (wrap64 (Int.tdiv x160001 t165))).bind fun t166 => ((impl_gcd.f k (wrap64 (Int.tdiv (mx (wrap64 ((wrap64 (x159000 * x161001)) - (wrap64 (x161000 * x159001)))) (wrap64 (-(wrap64 ((wrap64 (x159000 * x161001)) - (wrap64 (x161000 * x159001))))))) t164)) (wrap64 (Int.tdiv x159001 t165))).bind fun t167 => (if t166 = 0 then (none) else (if t167 = 0 then (none) else ((impl_product.f (wrap64 (Int.tdiv (wrap64 (Int.tdiv (mx (wrap64 ((wrap64 (x161000 * x160001)) - (wrap64 (x160000 * x161001)))) (wrap64 (-(wrap64 ((wrap64 (x161000 * x160001)) - (wrap64 (x160000 * x161001))))))) t164)) t166)) (wrap64 (Int.tdiv (wrap64 (Int.tdiv x159001 t165)) t167))).bind fun bt168 => ((impl_product.f (wrap64 (Int.tdiv (wrap64 (Int.tdiv (mx (wrap64 ((wrap64 (x159000 * x161001)) - (wrap64 (x161000 * x159001)))) (wrap64 (-(wrap64 ((wrap64 (x159000 * x161001)) - (wrap64 (x161000 * x159001))))))) t164)) t167)) (wrap64 (Int.tdiv (wrap64 (Int.tdiv x160001 t165)) t166))).bind fun bt170 => (if bt168.2 = true then (if bt170.2 = true then (some (bt168.1, bt170.1, true)) else (some (0, 0, false))) else (some (0, 0, false))))))))))))))))
def impl_BlendAmounts.f (k : Nat) (a0_0 : Int) (a0_1 : Int) (a1_0 : Int) (a1_1 : Int) (a2_0 : Int) (a2_1 : Int) : Option (Int × Int × Bool) := (impl_IsRatio.f k a0_0 a0_1).bind fun t161 => (if t161 = true then ((impl_IsRatio.f k a1_0 a1_1).bind fun t162 => (if t162 = true then ((impl_IsRatio.f k a2_0 a2_1).bind fun t163 => (impl_BlendAmounts.j0 k (!t163) a0_0 a0_1 a1_0 a1_1 a2_0 a2_1)) else (impl_BlendAmounts.j0 k true a0_0 a0_1 a1_0 a1_1 a2_0 a2_1))) else (impl_BlendAmounts.j0 k true a0_0 a0_1 a1_0 a1_1 a2_0 a2_1))
theorem impl_BlendAmounts.mono_l : ∀ k, (∀ y0 y1 y2 y3 y4 y5 y6, LeO (impl_BlendAmounts.j0 k y0 y1 y2 y3 y4 y5 y6) (impl_BlendAmounts.j0 (k + 1) y0 y1 y2 y3 y4 y5 y6))
  | 0 => fun _ _ _ _ _ _ _ r h => by simp [impl_BlendAmounts.j0] at h
  | k + 1 => by
    have ih0 := impl_BlendAmounts.mono_l k
    · intro y0 y1 y2 y3 y4 y5 y6
      unfold impl_BlendAmounts.j0
      repeat' first
      | (with_reducible exact ih0 _ _ _ _ _ _ _)
      | (with_reducible exact impl_IsRatio.mono _ _ _)
      | (with_reducible exact impl_gcd.mono _ _ _)
      | (with_reducible exact LeO.refl _)
      | (with_reducible exact LeO.none _)
      | (with_reducible refine LeO.ite ?_ ?_)
      | (with_reducible refine LeO.bind ?_ (fun _ => ?_))
      | exact ih0 _ _ _ _ _ _ _
      | exact impl_IsRatio.mono _ _ _
      | exact impl_gcd.mono _ _ _
      | exact LeO.none _
      | refine LeO.ite ?_ ?_
      | refine LeO.bind ?_ (fun _ => ?_)
theorem impl_BlendAmounts.mono : ∀ a0 a1 a2 a3 a4 a5 k, LeO (impl_BlendAmounts.f k a0 a1 a2 a3 a4 a5) (impl_BlendAmounts.f (k + 1) a0 a1 a2 a3 a4 a5) := by
  intro a0 a1 a2 a3 a4 a5 k
  have ih0 := impl_BlendAmounts.mono_l k
  unfold impl_BlendAmounts.f
  repeat' first
      | (with_reducible exact ih0 _ _ _ _ _ _ _)
      | (with_reducible exact impl_IsRatio.mono _ _ _)
      | (with_reducible exact impl_gcd.mono _ _ _)
      | (with_reducible exact LeO.refl _)
      | (with_reducible exact LeO.none _)
      | (with_reducible refine LeO.ite ?_ ?_)
      | (with_reducible refine LeO.bind ?_ (fun _ => ?_))
      | exact ih0 _ _ _ _ _ _ _
      | exact impl_IsRatio.mono _ _ _
      | exact impl_gcd.mono _ _ _
      | exact LeO.none _
      | refine LeO.ite ?_ ?_
      | refine LeO.bind ?_ (fun _ => ?_)
set_option maxHeartbeats 8000000 in
set_option maxRecDepth 100000 in
theorem impl_BlendAmounts.calls (k : Nat) (a0_0 : Int) (a0_1 : Int) (a1_0 : Int) (a1_1 : Int) (a2_0 : Int) (a2_1 : Int) (r1 : Int) (r2 : Int) (r3 : Bool) (w : World) (h : impl_BlendAmounts.f k a0_0 a0_1 a1_0 a1_1 a2_0 a2_1 = some (r1, r2, r3)) :
    Calls Try.prog 45 #[.agg #[.int .i64 a0_0, .int .i64 a0_1], .agg #[.int .i64 a1_0, .int .i64 a1_1], .agg #[.int .i64 a2_0, .int .i64 a2_1]] w fun e w' => e = .returned (.tuple #[.int .i64 r1, .int .i64 r2, .bool r3]) ∧ Below w.heap.size w w' := by
  have hu42 := Try.underlying42
  have HB := Aside0.mk (Below.refl w.heap.size w)
  have H : ((impl_IsRatio.f k a0_0 a0_1).bind fun t161 => (if t161 = true then ((impl_IsRatio.f k a1_0 a1_1).bind fun t162 => (if t162 = true then ((impl_IsRatio.f k a2_0 a2_1).bind fun t163 => (impl_BlendAmounts.j0 k (!t163) a0_0 a0_1 a1_0 a1_1 a2_0 a2_1)) else (impl_BlendAmounts.j0 k true a0_0 a0_1 a1_0 a1_1 a2_0 a2_1))) else (impl_BlendAmounts.j0 k true a0_0 a0_1 a1_0 a1_1 a2_0 a2_1))) = some (r1, r2, r3) := h
  clear h
  have HC4 := Aside0.mk H
  clear H
  go_enter Try.func45, Try.ntmps45
  go_upto_region 1 with (first | ((with_reducible refine gate_dst (N := 3) rfl ?_); refine box_event ?hg (N := 3) ?hd (cs := #[.int .i64 a0_0, .int .i64 a0_1]) (t := 42) ?hr ?_; (case hd => rfl); (case hg => rfl); (case hr => first | (go_simp; done) | (go_simp; rfl)); intro gb158 hg w5 hbox hb; have n0_ := Aside0.mk (below_step (xs HB.out) hb); have n1_ := Aside0.mk (hbox); have n2_ := Aside0.mk ((by rw [hg]; exact (below_size (xs HB.out)) : w.heap.size ≤ gb158)); have n3_ := Aside0.mk ((by rw [hg]; exact (below_size (xs HB.out)) : w.heap.size ≤ gb158)); clear HB; have HB := n0_; have BK158 := n1_; have GW158 := n2_; have GE158 := n3_; clear n0_ n1_ n2_ n3_; clear hb hbox hg) | ((with_reducible refine gate_dst (N := 4) rfl ?_); refine box_event ?hg (N := 4) ?hd (cs := #[.int .i64 a1_0, .int .i64 a1_1]) (t := 42) ?hr ?_; (case hd => rfl); (case hg => rfl); (case hr => first | (go_simp; done) | (go_simp; rfl)); intro gb159 hg w6 hbox hb; have n0_ := Aside0.mk (blk_below (g := gb158) (o := .cells #[.int .i64 a0_0, .int .i64 a0_1] 42 (0, 0)) (xb BK158.out) hb); have n1_ := Aside0.mk (below_step (xs HB.out) hb); have n2_ := Aside0.mk (hbox); have n3_ := Aside0.mk ((by rw [hg]; exact (below_size (xs HB.out)) : w.heap.size ≤ gb159)); have n4_ := Aside0.mk ((by rw [hg]; exact (below_size (xs HB.out)) : w.heap.size ≤ gb159)); have n5_ := Aside0.mk ((by rw [hg]; exact Nat.ne_of_lt (blk_lt (g := gb158) (o := .cells #[.int .i64 a0_0, .int .i64 a0_1] 42 (0, 0)) (xb BK158.out)) : gb158 ≠ gb159)); have n6_ := Aside0.mk ((by rw [hg]; exact Nat.ne_of_gt (blk_lt (g := gb158) (o := .cells #[.int .i64 a0_0, .int .i64 a0_1] 42 (0, 0)) (xb BK158.out)) : gb159 ≠ gb158)); clear BK158; clear HB; have BK158 := n0_; have HB := n1_; have BK159 := n2_; have GW159 := n3_; have GE159 := n4_; have NB158_159 := n5_; have NB159_158 := n6_; clear n0_ n1_ n2_ n3_ n4_ n5_ n6_; clear hb hbox hg) | ((with_reducible refine gate_dst (N := 5) rfl ?_); refine box_event ?hg (N := 5) ?hd (cs := #[.int .i64 a2_0, .int .i64 a2_1]) (t := 42) ?hr ?_; (case hd => rfl); (case hg => rfl); (case hr => first | (go_simp; done) | (go_simp; rfl)); intro gb160 hg w7 hbox hb; have n0_ := Aside0.mk (blk_below (g := gb158) (o := .cells #[.int .i64 a0_0, .int .i64 a0_1] 42 (0, 0)) (xb BK158.out) hb); have n1_ := Aside0.mk (blk_below (g := gb159) (o := .cells #[.int .i64 a1_0, .int .i64 a1_1] 42 (0, 0)) (xb BK159.out) hb); have n2_ := Aside0.mk (below_step (xs HB.out) hb); have n3_ := Aside0.mk (hbox); have n4_ := Aside0.mk ((by rw [hg]; exact (below_size (xs HB.out)) : w.heap.size ≤ gb160)); have n5_ := Aside0.mk ((by rw [hg]; exact (below_size (xs HB.out)) : w.heap.size ≤ gb160)); have n6_ := Aside0.mk ((by rw [hg]; exact Nat.ne_of_lt (blk_lt (g := gb158) (o := .cells #[.int .i64 a0_0, .int .i64 a0_1] 42 (0, 0)) (xb BK158.out)) : gb158 ≠ gb160)); have n7_ := Aside0.mk ((by rw [hg]; exact Nat.ne_of_gt (blk_lt (g := gb158) (o := .cells #[.int .i64 a0_0, .int .i64 a0_1] 42 (0, 0)) (xb BK158.out)) : gb160 ≠ gb158)); have n8_ := Aside0.mk ((by rw [hg]; exact Nat.ne_of_lt (blk_lt (g := gb159) (o := .cells #[.int .i64 a1_0, .int .i64 a1_1] 42 (0, 0)) (xb BK159.out)) : gb159 ≠ gb160)); have n9_ := Aside0.mk ((by rw [hg]; exact Nat.ne_of_gt (blk_lt (g := gb159) (o := .cells #[.int .i64 a1_0, .int .i64 a1_1] 42 (0, 0)) (xb BK159.out)) : gb160 ≠ gb159)); clear BK158; clear BK159; clear HB; have BK158 := n0_; have BK159 := n1_; have HB := n2_; have BK160 := n3_; have GW160 := n4_; have GE160 := n5_; have NB158_160 := n6_; have NB160_158 := n7_; have NB159_160 := n8_; have NB160_159 := n9_; clear n0_ n1_ n2_ n3_ n4_ n5_ n6_ n7_ n8_ n9_; clear hb hbox hg))
  repeat (go_quiet (first | ((with_reducible refine gate_dst (N := 3) rfl ?_); refine box_event ?hg (N := 3) ?hd (cs := #[.int .i64 a0_0, .int .i64 a0_1]) (t := 42) ?hr ?_; (case hd => rfl); (case hg => rfl); (case hr => first | (go_simp; done) | (go_simp; rfl)); intro gb158 hg w5 hbox hb; have n0_ := Aside0.mk (below_step (xs HB.out) hb); have n1_ := Aside0.mk (hbox); have n2_ := Aside0.mk ((by rw [hg]; exact (below_size (xs HB.out)) : w.heap.size ≤ gb158)); have n3_ := Aside0.mk ((by rw [hg]; exact (below_size (xs HB.out)) : w.heap.size ≤ gb158)); clear HB; have HB := n0_; have BK158 := n1_; have GW158 := n2_; have GE158 := n3_; clear n0_ n1_ n2_ n3_; clear hb hbox hg) | ((with_reducible refine gate_dst (N := 4) rfl ?_); refine box_event ?hg (N := 4) ?hd (cs := #[.int .i64 a1_0, .int .i64 a1_1]) (t := 42) ?hr ?_; (case hd => rfl); (case hg => rfl); (case hr => first | (go_simp; done) | (go_simp; rfl)); intro gb159 hg w6 hbox hb; have n0_ := Aside0.mk (blk_below (g := gb158) (o := .cells #[.int .i64 a0_0, .int .i64 a0_1] 42 (0, 0)) (xb BK158.out) hb); have n1_ := Aside0.mk (below_step (xs HB.out) hb); have n2_ := Aside0.mk (hbox); have n3_ := Aside0.mk ((by rw [hg]; exact (below_size (xs HB.out)) : w.heap.size ≤ gb159)); have n4_ := Aside0.mk ((by rw [hg]; exact (below_size (xs HB.out)) : w.heap.size ≤ gb159)); have n5_ := Aside0.mk ((by rw [hg]; exact Nat.ne_of_lt (blk_lt (g := gb158) (o := .cells #[.int .i64 a0_0, .int .i64 a0_1] 42 (0, 0)) (xb BK158.out)) : gb158 ≠ gb159)); have n6_ := Aside0.mk ((by rw [hg]; exact Nat.ne_of_gt (blk_lt (g := gb158) (o := .cells #[.int .i64 a0_0, .int .i64 a0_1] 42 (0, 0)) (xb BK158.out)) : gb159 ≠ gb158)); clear BK158; clear HB; have BK158 := n0_; have HB := n1_; have BK159 := n2_; have GW159 := n3_; have GE159 := n4_; have NB158_159 := n5_; have NB159_158 := n6_; clear n0_ n1_ n2_ n3_ n4_ n5_ n6_; clear hb hbox hg) | ((with_reducible refine gate_dst (N := 5) rfl ?_); refine box_event ?hg (N := 5) ?hd (cs := #[.int .i64 a2_0, .int .i64 a2_1]) (t := 42) ?hr ?_; (case hd => rfl); (case hg => rfl); (case hr => first | (go_simp; done) | (go_simp; rfl)); intro gb160 hg w7 hbox hb; have n0_ := Aside0.mk (blk_below (g := gb158) (o := .cells #[.int .i64 a0_0, .int .i64 a0_1] 42 (0, 0)) (xb BK158.out) hb); have n1_ := Aside0.mk (blk_below (g := gb159) (o := .cells #[.int .i64 a1_0, .int .i64 a1_1] 42 (0, 0)) (xb BK159.out) hb); have n2_ := Aside0.mk (below_step (xs HB.out) hb); have n3_ := Aside0.mk (hbox); have n4_ := Aside0.mk ((by rw [hg]; exact (below_size (xs HB.out)) : w.heap.size ≤ gb160)); have n5_ := Aside0.mk ((by rw [hg]; exact (below_size (xs HB.out)) : w.heap.size ≤ gb160)); have n6_ := Aside0.mk ((by rw [hg]; exact Nat.ne_of_lt (blk_lt (g := gb158) (o := .cells #[.int .i64 a0_0, .int .i64 a0_1] 42 (0, 0)) (xb BK158.out)) : gb158 ≠ gb160)); have n7_ := Aside0.mk ((by rw [hg]; exact Nat.ne_of_gt (blk_lt (g := gb158) (o := .cells #[.int .i64 a0_0, .int .i64 a0_1] 42 (0, 0)) (xb BK158.out)) : gb160 ≠ gb158)); have n8_ := Aside0.mk ((by rw [hg]; exact Nat.ne_of_lt (blk_lt (g := gb159) (o := .cells #[.int .i64 a1_0, .int .i64 a1_1] 42 (0, 0)) (xb BK159.out)) : gb159 ≠ gb160)); have n9_ := Aside0.mk ((by rw [hg]; exact Nat.ne_of_gt (blk_lt (g := gb159) (o := .cells #[.int .i64 a1_0, .int .i64 a1_1] 42 (0, 0)) (xb BK159.out)) : gb160 ≠ gb159)); clear BK158; clear BK159; clear HB; have BK158 := n0_; have BK159 := n1_; have HB := n2_; have BK160 := n3_; have GW160 := n4_; have GE160 := n5_; have NB158_160 := n6_; have NB160_158 := n7_; have NB159_160 := n8_; have NB160_159 := n9_; clear n0_ n1_ n2_ n3_ n4_ n5_ n6_ n7_ n8_ n9_; clear hb hbox hg)); go_upto_region 1 with (first | ((with_reducible refine gate_dst (N := 3) rfl ?_); refine box_event ?hg (N := 3) ?hd (cs := #[.int .i64 a0_0, .int .i64 a0_1]) (t := 42) ?hr ?_; (case hd => rfl); (case hg => rfl); (case hr => first | (go_simp; done) | (go_simp; rfl)); intro gb158 hg w5 hbox hb; have n0_ := Aside0.mk (below_step (xs HB.out) hb); have n1_ := Aside0.mk (hbox); have n2_ := Aside0.mk ((by rw [hg]; exact (below_size (xs HB.out)) : w.heap.size ≤ gb158)); have n3_ := Aside0.mk ((by rw [hg]; exact (below_size (xs HB.out)) : w.heap.size ≤ gb158)); clear HB; have HB := n0_; have BK158 := n1_; have GW158 := n2_; have GE158 := n3_; clear n0_ n1_ n2_ n3_; clear hb hbox hg) | ((with_reducible refine gate_dst (N := 4) rfl ?_); refine box_event ?hg (N := 4) ?hd (cs := #[.int .i64 a1_0, .int .i64 a1_1]) (t := 42) ?hr ?_; (case hd => rfl); (case hg => rfl); (case hr => first | (go_simp; done) | (go_simp; rfl)); intro gb159 hg w6 hbox hb; have n0_ := Aside0.mk (blk_below (g := gb158) (o := .cells #[.int .i64 a0_0, .int .i64 a0_1] 42 (0, 0)) (xb BK158.out) hb); have n1_ := Aside0.mk (below_step (xs HB.out) hb); have n2_ := Aside0.mk (hbox); have n3_ := Aside0.mk ((by rw [hg]; exact (below_size (xs HB.out)) : w.heap.size ≤ gb159)); have n4_ := Aside0.mk ((by rw [hg]; exact (below_size (xs HB.out)) : w.heap.size ≤ gb159)); have n5_ := Aside0.mk ((by rw [hg]; exact Nat.ne_of_lt (blk_lt (g := gb158) (o := .cells #[.int .i64 a0_0, .int .i64 a0_1] 42 (0, 0)) (xb BK158.out)) : gb158 ≠ gb159)); have n6_ := Aside0.mk ((by rw [hg]; exact Nat.ne_of_gt (blk_lt (g := gb158) (o := .cells #[.int .i64 a0_0, .int .i64 a0_1] 42 (0, 0)) (xb BK158.out)) : gb159 ≠ gb158)); clear BK158; clear HB; have BK158 := n0_; have HB := n1_; have BK159 := n2_; have GW159 := n3_; have GE159 := n4_; have NB158_159 := n5_; have NB159_158 := n6_; clear n0_ n1_ n2_ n3_ n4_ n5_ n6_; clear hb hbox hg) | ((with_reducible refine gate_dst (N := 5) rfl ?_); refine box_event ?hg (N := 5) ?hd (cs := #[.int .i64 a2_0, .int .i64 a2_1]) (t := 42) ?hr ?_; (case hd => rfl); (case hg => rfl); (case hr => first | (go_simp; done) | (go_simp; rfl)); intro gb160 hg w7 hbox hb; have n0_ := Aside0.mk (blk_below (g := gb158) (o := .cells #[.int .i64 a0_0, .int .i64 a0_1] 42 (0, 0)) (xb BK158.out) hb); have n1_ := Aside0.mk (blk_below (g := gb159) (o := .cells #[.int .i64 a1_0, .int .i64 a1_1] 42 (0, 0)) (xb BK159.out) hb); have n2_ := Aside0.mk (below_step (xs HB.out) hb); have n3_ := Aside0.mk (hbox); have n4_ := Aside0.mk ((by rw [hg]; exact (below_size (xs HB.out)) : w.heap.size ≤ gb160)); have n5_ := Aside0.mk ((by rw [hg]; exact (below_size (xs HB.out)) : w.heap.size ≤ gb160)); have n6_ := Aside0.mk ((by rw [hg]; exact Nat.ne_of_lt (blk_lt (g := gb158) (o := .cells #[.int .i64 a0_0, .int .i64 a0_1] 42 (0, 0)) (xb BK158.out)) : gb158 ≠ gb160)); have n7_ := Aside0.mk ((by rw [hg]; exact Nat.ne_of_gt (blk_lt (g := gb158) (o := .cells #[.int .i64 a0_0, .int .i64 a0_1] 42 (0, 0)) (xb BK158.out)) : gb160 ≠ gb158)); have n8_ := Aside0.mk ((by rw [hg]; exact Nat.ne_of_lt (blk_lt (g := gb159) (o := .cells #[.int .i64 a1_0, .int .i64 a1_1] 42 (0, 0)) (xb BK159.out)) : gb159 ≠ gb160)); have n9_ := Aside0.mk ((by rw [hg]; exact Nat.ne_of_gt (blk_lt (g := gb159) (o := .cells #[.int .i64 a1_0, .int .i64 a1_1] 42 (0, 0)) (xb BK159.out)) : gb160 ≠ gb159)); clear BK158; clear BK159; clear HB; have BK158 := n0_; have BK159 := n1_; have HB := n2_; have BK160 := n3_; have GW160 := n4_; have GE160 := n5_; have NB158_160 := n6_; have NB160_158 := n7_; have NB159_160 := n8_; have NB160_159 := n9_; clear n0_ n1_ n2_ n3_ n4_ n5_ n6_ n7_ n8_ n9_; clear hb hbox hg)))
  (try simp only [Act.put, List.setIfInBounds_toArray, List.set_cons_zero, List.set_cons_succ])
  go_cut [31] (fun v31 wc => ∃ (kq : Nat) (x31_3 : Bool), v31 = .bool x31_3 ∧ Aside0 (impl_BlendAmounts.j0 kq x31_3 a0_0 a0_1 a1_0 a1_1 a2_0 a2_1 = some (r1, r2, r3)) ∧ Aside0 (kq ≤ k) ∧ Aside0 (wc.heap[gb158]? = some (.cells #[.int .i64 a0_0, .int .i64 a0_1] 42 (0, 0))) ∧ Aside0 (wc.heap[gb159]? = some (.cells #[.int .i64 a1_0, .int .i64 a1_1] 42 (0, 0))) ∧ Aside0 (wc.heap[gb160]? = some (.cells #[.int .i64 a2_0, .int .i64 a2_1] 42 (0, 0))) ∧ Aside0 (Below w.heap.size w wc))
  case first =>
    have H := HC4.out
    clear HC4
    replace H := Option.bind_eq_some_iff.mp H
    obtain ⟨t161, A80, H⟩ := H
    replace H : (if t161 = true then ((impl_IsRatio.f k a1_0 a1_1).bind fun t162 => (if t162 = true then ((impl_IsRatio.f k a2_0 a2_1).bind fun t163 => (impl_BlendAmounts.j0 k (!t163) a0_0 a0_1 a1_0 a1_1 a2_0 a2_1)) else (impl_BlendAmounts.j0 k true a0_0 a0_1 a1_0 a1_1 a2_0 a2_1))) else (impl_BlendAmounts.j0 k true a0_0 a0_1 a1_0 a1_1 a2_0 a2_1)) = some (r1, r2, r3) := H
    have A8 := Aside0.mk A80
    clear A80
    by_cases c9 : t161 = true
    · subst c9
      have H1 : ((impl_IsRatio.f k a1_0 a1_1).bind fun t162 => (if t162 = true then ((impl_IsRatio.f k a2_0 a2_1).bind fun t163 => (impl_BlendAmounts.j0 k (!t163) a0_0 a0_1 a1_0 a1_1 a2_0 a2_1)) else (impl_BlendAmounts.j0 k true a0_0 a0_1 a1_0 a1_1 a2_0 a2_1))) = some (r1, r2, r3) := by rw [if_pos rfl] at H; exact H
      clear H
      have H := H1
      clear H1
      replace H := Option.bind_eq_some_iff.mp H
      obtain ⟨t162, A100, H⟩ := H
      replace H : (if t162 = true then ((impl_IsRatio.f k a2_0 a2_1).bind fun t163 => (impl_BlendAmounts.j0 k (!t163) a0_0 a0_1 a1_0 a1_1 a2_0 a2_1)) else (impl_BlendAmounts.j0 k true a0_0 a0_1 a1_0 a1_1 a2_0 a2_1)) = some (r1, r2, r3) := H
      have A10 := Aside0.mk A100
      clear A100
      by_cases c11 : t162 = true
      · subst c11
        have H1 : ((impl_IsRatio.f k a2_0 a2_1).bind fun t163 => (impl_BlendAmounts.j0 k (!t163) a0_0 a0_1 a1_0 a1_1 a2_0 a2_1)) = some (r1, r2, r3) := by rw [if_pos rfl] at H; exact H
        clear H
        have H := H1
        clear H1
        replace H := Option.bind_eq_some_iff.mp H
        obtain ⟨t163, A120, H⟩ := H
        replace H : (impl_BlendAmounts.j0 k (!t163) a0_0 a0_1 a1_0 a1_1 a2_0 a2_1) = some (r1, r2, r3) := H
        have A12 := Aside0.mk A120
        clear A120
        have H' := Aside0.mk H
        clear H
        have hnb13 := NB158_159.out
        have hnc13 := NB159_158.out
        have hnb14 := NB158_160.out
        have hnc14 := NB160_158.out
        have hcz15_0 : w7.cell? ⟨gb158, 0, none⟩ = some (.int .i64 a0_0) := (blk_cell BK158.out 0).trans rfl
        have hcz15_1 : w7.cell? ⟨gb158, 1, none⟩ = some (.int .i64 a0_1) := (blk_cell BK158.out 1).trans rfl
        have hfz15_0 := blk_frozen BK158.out 0
        have hfz15_1 := blk_frozen BK158.out 1
        go_wp2_with (first | (go_at_call 29; (with_reducible refine (impl_IsRatio.calls k a0_0 a0_1 true _ A8.out).mono ?_); rintro e w16 ⟨rfl, hb⟩; have n0_ := Aside0.mk (blk_below (g := gb158) (o := .cells #[.int .i64 a0_0, .int .i64 a0_1] 42 (0, 0)) (xb BK158.out) hb); have n1_ := Aside0.mk (blk_below (g := gb159) (o := .cells #[.int .i64 a1_0, .int .i64 a1_1] 42 (0, 0)) (xb BK159.out) hb); have n2_ := Aside0.mk (blk_below (g := gb160) (o := .cells #[.int .i64 a2_0, .int .i64 a2_1] 42 (0, 0)) (xb BK160.out) hb); have n3_ := Aside0.mk (below_step (xs HB.out) hb); clear BK158; clear BK159; clear BK160; clear HB; have BK158 := n0_; have BK159 := n1_; have BK160 := n2_; have HB := n3_; clear n0_ n1_ n2_ n3_; (try clear hb); (try clear hb2); (try clear hk); (try clear hi); have hnb17 := NB159_160.out; have hnc17 := NB160_159.out; have hcz18_0 : w16.cell? ⟨gb159, 0, none⟩ = some (.int .i64 a1_0) := (blk_cell BK159.out 0).trans rfl; have hcz18_1 : w16.cell? ⟨gb159, 1, none⟩ = some (.int .i64 a1_1) := (blk_cell BK159.out 1).trans rfl; have hfz18_0 := blk_frozen BK159.out 0; have hfz18_1 := blk_frozen BK159.out 1) | (go_at_call 29; (with_reducible refine (impl_IsRatio.calls k a1_0 a1_1 true _ A10.out).mono ?_); rintro e w19 ⟨rfl, hb⟩; have n0_ := Aside0.mk (blk_below (g := gb158) (o := .cells #[.int .i64 a0_0, .int .i64 a0_1] 42 (0, 0)) (xb BK158.out) hb); have n1_ := Aside0.mk (blk_below (g := gb159) (o := .cells #[.int .i64 a1_0, .int .i64 a1_1] 42 (0, 0)) (xb BK159.out) hb); have n2_ := Aside0.mk (blk_below (g := gb160) (o := .cells #[.int .i64 a2_0, .int .i64 a2_1] 42 (0, 0)) (xb BK160.out) hb); have n3_ := Aside0.mk (below_step (xs HB.out) hb); clear BK158; clear BK159; clear BK160; clear HB; have BK158 := n0_; have BK159 := n1_; have BK160 := n2_; have HB := n3_; clear n0_ n1_ n2_ n3_; (try clear hb); (try clear hb2); (try clear hk); (try clear hi); have hcz20_0 : w19.cell? ⟨gb160, 0, none⟩ = some (.int .i64 a2_0) := (blk_cell BK160.out 0).trans rfl; have hcz20_1 : w19.cell? ⟨gb160, 1, none⟩ = some (.int .i64 a2_1) := (blk_cell BK160.out 1).trans rfl; have hfz20_0 := blk_frozen BK160.out 0; have hfz20_1 := blk_frozen BK160.out 1) | (go_at_call 29; (with_reducible refine (impl_IsRatio.calls k a2_0 a2_1 t163 _ A12.out).mono ?_); rintro e w21 ⟨rfl, hb⟩; have n0_ := Aside0.mk (blk_below (g := gb158) (o := .cells #[.int .i64 a0_0, .int .i64 a0_1] 42 (0, 0)) (xb BK158.out) hb); have n1_ := Aside0.mk (blk_below (g := gb159) (o := .cells #[.int .i64 a1_0, .int .i64 a1_1] 42 (0, 0)) (xb BK159.out) hb); have n2_ := Aside0.mk (blk_below (g := gb160) (o := .cells #[.int .i64 a2_0, .int .i64 a2_1] 42 (0, 0)) (xb BK160.out) hb); have n3_ := Aside0.mk (below_step (xs HB.out) hb); clear BK158; clear BK159; clear BK160; clear HB; have BK158 := n0_; have BK159 := n1_; have BK160 := n2_; have HB := n3_; clear n0_ n1_ n2_ n3_; (try clear hb); (try clear hb2); (try clear hk); (try clear hi)))
        repeat (go_quiet (first | (go_at_call 29; (with_reducible refine (impl_IsRatio.calls k a0_0 a0_1 true _ A8.out).mono ?_); rintro e w16 ⟨rfl, hb⟩; have n0_ := Aside0.mk (blk_below (g := gb158) (o := .cells #[.int .i64 a0_0, .int .i64 a0_1] 42 (0, 0)) (xb BK158.out) hb); have n1_ := Aside0.mk (blk_below (g := gb159) (o := .cells #[.int .i64 a1_0, .int .i64 a1_1] 42 (0, 0)) (xb BK159.out) hb); have n2_ := Aside0.mk (blk_below (g := gb160) (o := .cells #[.int .i64 a2_0, .int .i64 a2_1] 42 (0, 0)) (xb BK160.out) hb); have n3_ := Aside0.mk (below_step (xs HB.out) hb); clear BK158; clear BK159; clear BK160; clear HB; have BK158 := n0_; have BK159 := n1_; have BK160 := n2_; have HB := n3_; clear n0_ n1_ n2_ n3_; (try clear hb); (try clear hb2); (try clear hk); (try clear hi); have hnb17 := NB159_160.out; have hnc17 := NB160_159.out; have hcz18_0 : w16.cell? ⟨gb159, 0, none⟩ = some (.int .i64 a1_0) := (blk_cell BK159.out 0).trans rfl; have hcz18_1 : w16.cell? ⟨gb159, 1, none⟩ = some (.int .i64 a1_1) := (blk_cell BK159.out 1).trans rfl; have hfz18_0 := blk_frozen BK159.out 0; have hfz18_1 := blk_frozen BK159.out 1) | (go_at_call 29; (with_reducible refine (impl_IsRatio.calls k a1_0 a1_1 true _ A10.out).mono ?_); rintro e w19 ⟨rfl, hb⟩; have n0_ := Aside0.mk (blk_below (g := gb158) (o := .cells #[.int .i64 a0_0, .int .i64 a0_1] 42 (0, 0)) (xb BK158.out) hb); have n1_ := Aside0.mk (blk_below (g := gb159) (o := .cells #[.int .i64 a1_0, .int .i64 a1_1] 42 (0, 0)) (xb BK159.out) hb); have n2_ := Aside0.mk (blk_below (g := gb160) (o := .cells #[.int .i64 a2_0, .int .i64 a2_1] 42 (0, 0)) (xb BK160.out) hb); have n3_ := Aside0.mk (below_step (xs HB.out) hb); clear BK158; clear BK159; clear BK160; clear HB; have BK158 := n0_; have BK159 := n1_; have BK160 := n2_; have HB := n3_; clear n0_ n1_ n2_ n3_; (try clear hb); (try clear hb2); (try clear hk); (try clear hi); have hcz20_0 : w19.cell? ⟨gb160, 0, none⟩ = some (.int .i64 a2_0) := (blk_cell BK160.out 0).trans rfl; have hcz20_1 : w19.cell? ⟨gb160, 1, none⟩ = some (.int .i64 a2_1) := (blk_cell BK160.out 1).trans rfl; have hfz20_0 := blk_frozen BK160.out 0; have hfz20_1 := blk_frozen BK160.out 1) | (go_at_call 29; (with_reducible refine (impl_IsRatio.calls k a2_0 a2_1 t163 _ A12.out).mono ?_); rintro e w21 ⟨rfl, hb⟩; have n0_ := Aside0.mk (blk_below (g := gb158) (o := .cells #[.int .i64 a0_0, .int .i64 a0_1] 42 (0, 0)) (xb BK158.out) hb); have n1_ := Aside0.mk (blk_below (g := gb159) (o := .cells #[.int .i64 a1_0, .int .i64 a1_1] 42 (0, 0)) (xb BK159.out) hb); have n2_ := Aside0.mk (blk_below (g := gb160) (o := .cells #[.int .i64 a2_0, .int .i64 a2_1] 42 (0, 0)) (xb BK160.out) hb); have n3_ := Aside0.mk (below_step (xs HB.out) hb); clear BK158; clear BK159; clear BK160; clear HB; have BK158 := n0_; have BK159 := n1_; have BK160 := n2_; have HB := n3_; clear n0_ n1_ n2_ n3_; (try clear hb); (try clear hb2); (try clear hk); (try clear hi))); try go_wp2_with (first | (go_at_call 29; (with_reducible refine (impl_IsRatio.calls k a0_0 a0_1 true _ A8.out).mono ?_); rintro e w16 ⟨rfl, hb⟩; have n0_ := Aside0.mk (blk_below (g := gb158) (o := .cells #[.int .i64 a0_0, .int .i64 a0_1] 42 (0, 0)) (xb BK158.out) hb); have n1_ := Aside0.mk (blk_below (g := gb159) (o := .cells #[.int .i64 a1_0, .int .i64 a1_1] 42 (0, 0)) (xb BK159.out) hb); have n2_ := Aside0.mk (blk_below (g := gb160) (o := .cells #[.int .i64 a2_0, .int .i64 a2_1] 42 (0, 0)) (xb BK160.out) hb); have n3_ := Aside0.mk (below_step (xs HB.out) hb); clear BK158; clear BK159; clear BK160; clear HB; have BK158 := n0_; have BK159 := n1_; have BK160 := n2_; have HB := n3_; clear n0_ n1_ n2_ n3_; (try clear hb); (try clear hb2); (try clear hk); (try clear hi); have hnb17 := NB159_160.out; have hnc17 := NB160_159.out; have hcz18_0 : w16.cell? ⟨gb159, 0, none⟩ = some (.int .i64 a1_0) := (blk_cell BK159.out 0).trans rfl; have hcz18_1 : w16.cell? ⟨gb159, 1, none⟩ = some (.int .i64 a1_1) := (blk_cell BK159.out 1).trans rfl; have hfz18_0 := blk_frozen BK159.out 0; have hfz18_1 := blk_frozen BK159.out 1) | (go_at_call 29; (with_reducible refine (impl_IsRatio.calls k a1_0 a1_1 true _ A10.out).mono ?_); rintro e w19 ⟨rfl, hb⟩; have n0_ := Aside0.mk (blk_below (g := gb158) (o := .cells #[.int .i64 a0_0, .int .i64 a0_1] 42 (0, 0)) (xb BK158.out) hb); have n1_ := Aside0.mk (blk_below (g := gb159) (o := .cells #[.int .i64 a1_0, .int .i64 a1_1] 42 (0, 0)) (xb BK159.out) hb); have n2_ := Aside0.mk (blk_below (g := gb160) (o := .cells #[.int .i64 a2_0, .int .i64 a2_1] 42 (0, 0)) (xb BK160.out) hb); have n3_ := Aside0.mk (below_step (xs HB.out) hb); clear BK158; clear BK159; clear BK160; clear HB; have BK158 := n0_; have BK159 := n1_; have BK160 := n2_; have HB := n3_; clear n0_ n1_ n2_ n3_; (try clear hb); (try clear hb2); (try clear hk); (try clear hi); have hcz20_0 : w19.cell? ⟨gb160, 0, none⟩ = some (.int .i64 a2_0) := (blk_cell BK160.out 0).trans rfl; have hcz20_1 : w19.cell? ⟨gb160, 1, none⟩ = some (.int .i64 a2_1) := (blk_cell BK160.out 1).trans rfl; have hfz20_0 := blk_frozen BK160.out 0; have hfz20_1 := blk_frozen BK160.out 1) | (go_at_call 29; (with_reducible refine (impl_IsRatio.calls k a2_0 a2_1 t163 _ A12.out).mono ?_); rintro e w21 ⟨rfl, hb⟩; have n0_ := Aside0.mk (blk_below (g := gb158) (o := .cells #[.int .i64 a0_0, .int .i64 a0_1] 42 (0, 0)) (xb BK158.out) hb); have n1_ := Aside0.mk (blk_below (g := gb159) (o := .cells #[.int .i64 a1_0, .int .i64 a1_1] 42 (0, 0)) (xb BK159.out) hb); have n2_ := Aside0.mk (blk_below (g := gb160) (o := .cells #[.int .i64 a2_0, .int .i64 a2_1] 42 (0, 0)) (xb BK160.out) hb); have n3_ := Aside0.mk (below_step (xs HB.out) hb); clear BK158; clear BK159; clear BK160; clear HB; have BK158 := n0_; have BK159 := n1_; have BK160 := n2_; have HB := n3_; clear n0_ n1_ n2_ n3_; (try clear hb); (try clear hb2); (try clear hk); (try clear hi))))
        go_meet
        case rel => exact ⟨_, (!t163), (by first | rfl | (simp; done) | (simp [*]; done)), H', ⟨by first | omega | exact Nat.le_refl _⟩, ⟨xb BK158.out⟩, ⟨xb BK159.out⟩, ⟨xb BK160.out⟩, ⟨xs HB.out⟩⟩
      · replace c11 := Bool.eq_false_iff.mpr c11
        subst c11
        have H1 : (impl_BlendAmounts.j0 k true a0_0 a0_1 a1_0 a1_1 a2_0 a2_1) = some (r1, r2, r3) := by rw [if_neg (show ¬ (false = true) by decide)] at H; exact H
        clear H
        have H := H1
        clear H1
        have H' := Aside0.mk H
        clear H
        have hnb22 := NB158_159.out
        have hnc22 := NB159_158.out
        have hnb23 := NB158_160.out
        have hnc23 := NB160_158.out
        have hcz24_0 : w7.cell? ⟨gb158, 0, none⟩ = some (.int .i64 a0_0) := (blk_cell BK158.out 0).trans rfl
        have hcz24_1 : w7.cell? ⟨gb158, 1, none⟩ = some (.int .i64 a0_1) := (blk_cell BK158.out 1).trans rfl
        have hfz24_0 := blk_frozen BK158.out 0
        have hfz24_1 := blk_frozen BK158.out 1
        go_wp2_with (first | (go_at_call 29; (with_reducible refine (impl_IsRatio.calls k a0_0 a0_1 true _ A8.out).mono ?_); rintro e w25 ⟨rfl, hb⟩; have n0_ := Aside0.mk (blk_below (g := gb158) (o := .cells #[.int .i64 a0_0, .int .i64 a0_1] 42 (0, 0)) (xb BK158.out) hb); have n1_ := Aside0.mk (blk_below (g := gb159) (o := .cells #[.int .i64 a1_0, .int .i64 a1_1] 42 (0, 0)) (xb BK159.out) hb); have n2_ := Aside0.mk (blk_below (g := gb160) (o := .cells #[.int .i64 a2_0, .int .i64 a2_1] 42 (0, 0)) (xb BK160.out) hb); have n3_ := Aside0.mk (below_step (xs HB.out) hb); clear BK158; clear BK159; clear BK160; clear HB; have BK158 := n0_; have BK159 := n1_; have BK160 := n2_; have HB := n3_; clear n0_ n1_ n2_ n3_; (try clear hb); (try clear hb2); (try clear hk); (try clear hi); have hnb26 := NB159_160.out; have hnc26 := NB160_159.out; have hcz27_0 : w25.cell? ⟨gb159, 0, none⟩ = some (.int .i64 a1_0) := (blk_cell BK159.out 0).trans rfl; have hcz27_1 : w25.cell? ⟨gb159, 1, none⟩ = some (.int .i64 a1_1) := (blk_cell BK159.out 1).trans rfl; have hfz27_0 := blk_frozen BK159.out 0; have hfz27_1 := blk_frozen BK159.out 1) | (go_at_call 29; (with_reducible refine (impl_IsRatio.calls k a1_0 a1_1 false _ A10.out).mono ?_); rintro e w28 ⟨rfl, hb⟩; have n0_ := Aside0.mk (blk_below (g := gb158) (o := .cells #[.int .i64 a0_0, .int .i64 a0_1] 42 (0, 0)) (xb BK158.out) hb); have n1_ := Aside0.mk (blk_below (g := gb159) (o := .cells #[.int .i64 a1_0, .int .i64 a1_1] 42 (0, 0)) (xb BK159.out) hb); have n2_ := Aside0.mk (blk_below (g := gb160) (o := .cells #[.int .i64 a2_0, .int .i64 a2_1] 42 (0, 0)) (xb BK160.out) hb); have n3_ := Aside0.mk (below_step (xs HB.out) hb); clear BK158; clear BK159; clear BK160; clear HB; have BK158 := n0_; have BK159 := n1_; have BK160 := n2_; have HB := n3_; clear n0_ n1_ n2_ n3_; (try clear hb); (try clear hb2); (try clear hk); (try clear hi)))
        repeat (go_quiet (first | (go_at_call 29; (with_reducible refine (impl_IsRatio.calls k a0_0 a0_1 true _ A8.out).mono ?_); rintro e w25 ⟨rfl, hb⟩; have n0_ := Aside0.mk (blk_below (g := gb158) (o := .cells #[.int .i64 a0_0, .int .i64 a0_1] 42 (0, 0)) (xb BK158.out) hb); have n1_ := Aside0.mk (blk_below (g := gb159) (o := .cells #[.int .i64 a1_0, .int .i64 a1_1] 42 (0, 0)) (xb BK159.out) hb); have n2_ := Aside0.mk (blk_below (g := gb160) (o := .cells #[.int .i64 a2_0, .int .i64 a2_1] 42 (0, 0)) (xb BK160.out) hb); have n3_ := Aside0.mk (below_step (xs HB.out) hb); clear BK158; clear BK159; clear BK160; clear HB; have BK158 := n0_; have BK159 := n1_; have BK160 := n2_; have HB := n3_; clear n0_ n1_ n2_ n3_; (try clear hb); (try clear hb2); (try clear hk); (try clear hi); have hnb26 := NB159_160.out; have hnc26 := NB160_159.out; have hcz27_0 : w25.cell? ⟨gb159, 0, none⟩ = some (.int .i64 a1_0) := (blk_cell BK159.out 0).trans rfl; have hcz27_1 : w25.cell? ⟨gb159, 1, none⟩ = some (.int .i64 a1_1) := (blk_cell BK159.out 1).trans rfl; have hfz27_0 := blk_frozen BK159.out 0; have hfz27_1 := blk_frozen BK159.out 1) | (go_at_call 29; (with_reducible refine (impl_IsRatio.calls k a1_0 a1_1 false _ A10.out).mono ?_); rintro e w28 ⟨rfl, hb⟩; have n0_ := Aside0.mk (blk_below (g := gb158) (o := .cells #[.int .i64 a0_0, .int .i64 a0_1] 42 (0, 0)) (xb BK158.out) hb); have n1_ := Aside0.mk (blk_below (g := gb159) (o := .cells #[.int .i64 a1_0, .int .i64 a1_1] 42 (0, 0)) (xb BK159.out) hb); have n2_ := Aside0.mk (blk_below (g := gb160) (o := .cells #[.int .i64 a2_0, .int .i64 a2_1] 42 (0, 0)) (xb BK160.out) hb); have n3_ := Aside0.mk (below_step (xs HB.out) hb); clear BK158; clear BK159; clear BK160; clear HB; have BK158 := n0_; have BK159 := n1_; have BK160 := n2_; have HB := n3_; clear n0_ n1_ n2_ n3_; (try clear hb); (try clear hb2); (try clear hk); (try clear hi))); try go_wp2_with (first | (go_at_call 29; (with_reducible refine (impl_IsRatio.calls k a0_0 a0_1 true _ A8.out).mono ?_); rintro e w25 ⟨rfl, hb⟩; have n0_ := Aside0.mk (blk_below (g := gb158) (o := .cells #[.int .i64 a0_0, .int .i64 a0_1] 42 (0, 0)) (xb BK158.out) hb); have n1_ := Aside0.mk (blk_below (g := gb159) (o := .cells #[.int .i64 a1_0, .int .i64 a1_1] 42 (0, 0)) (xb BK159.out) hb); have n2_ := Aside0.mk (blk_below (g := gb160) (o := .cells #[.int .i64 a2_0, .int .i64 a2_1] 42 (0, 0)) (xb BK160.out) hb); have n3_ := Aside0.mk (below_step (xs HB.out) hb); clear BK158; clear BK159; clear BK160; clear HB; have BK158 := n0_; have BK159 := n1_; have BK160 := n2_; have HB := n3_; clear n0_ n1_ n2_ n3_; (try clear hb); (try clear hb2); (try clear hk); (try clear hi); have hnb26 := NB159_160.out; have hnc26 := NB160_159.out; have hcz27_0 : w25.cell? ⟨gb159, 0, none⟩ = some (.int .i64 a1_0) := (blk_cell BK159.out 0).trans rfl; have hcz27_1 : w25.cell? ⟨gb159, 1, none⟩ = some (.int .i64 a1_1) := (blk_cell BK159.out 1).trans rfl; have hfz27_0 := blk_frozen BK159.out 0; have hfz27_1 := blk_frozen BK159.out 1) | (go_at_call 29; (with_reducible refine (impl_IsRatio.calls k a1_0 a1_1 false _ A10.out).mono ?_); rintro e w28 ⟨rfl, hb⟩; have n0_ := Aside0.mk (blk_below (g := gb158) (o := .cells #[.int .i64 a0_0, .int .i64 a0_1] 42 (0, 0)) (xb BK158.out) hb); have n1_ := Aside0.mk (blk_below (g := gb159) (o := .cells #[.int .i64 a1_0, .int .i64 a1_1] 42 (0, 0)) (xb BK159.out) hb); have n2_ := Aside0.mk (blk_below (g := gb160) (o := .cells #[.int .i64 a2_0, .int .i64 a2_1] 42 (0, 0)) (xb BK160.out) hb); have n3_ := Aside0.mk (below_step (xs HB.out) hb); clear BK158; clear BK159; clear BK160; clear HB; have BK158 := n0_; have BK159 := n1_; have BK160 := n2_; have HB := n3_; clear n0_ n1_ n2_ n3_; (try clear hb); (try clear hb2); (try clear hk); (try clear hi))))
        go_meet
        case rel => exact ⟨_, (true), (by first | rfl | (simp; done) | (simp [*]; done)), H', ⟨by first | omega | exact Nat.le_refl _⟩, ⟨xb BK158.out⟩, ⟨xb BK159.out⟩, ⟨xb BK160.out⟩, ⟨xs HB.out⟩⟩
    · replace c9 := Bool.eq_false_iff.mpr c9
      subst c9
      have H1 : (impl_BlendAmounts.j0 k true a0_0 a0_1 a1_0 a1_1 a2_0 a2_1) = some (r1, r2, r3) := by rw [if_neg (show ¬ (false = true) by decide)] at H; exact H
      clear H
      have H := H1
      clear H1
      have H' := Aside0.mk H
      clear H
      have hnb29 := NB158_159.out
      have hnc29 := NB159_158.out
      have hnb30 := NB158_160.out
      have hnc30 := NB160_158.out
      have hcz31_0 : w7.cell? ⟨gb158, 0, none⟩ = some (.int .i64 a0_0) := (blk_cell BK158.out 0).trans rfl
      have hcz31_1 : w7.cell? ⟨gb158, 1, none⟩ = some (.int .i64 a0_1) := (blk_cell BK158.out 1).trans rfl
      have hfz31_0 := blk_frozen BK158.out 0
      have hfz31_1 := blk_frozen BK158.out 1
      go_wp2_with (first | (go_at_call 29; (with_reducible refine (impl_IsRatio.calls k a0_0 a0_1 false _ A8.out).mono ?_); rintro e w32 ⟨rfl, hb⟩; have n0_ := Aside0.mk (blk_below (g := gb158) (o := .cells #[.int .i64 a0_0, .int .i64 a0_1] 42 (0, 0)) (xb BK158.out) hb); have n1_ := Aside0.mk (blk_below (g := gb159) (o := .cells #[.int .i64 a1_0, .int .i64 a1_1] 42 (0, 0)) (xb BK159.out) hb); have n2_ := Aside0.mk (blk_below (g := gb160) (o := .cells #[.int .i64 a2_0, .int .i64 a2_1] 42 (0, 0)) (xb BK160.out) hb); have n3_ := Aside0.mk (below_step (xs HB.out) hb); clear BK158; clear BK159; clear BK160; clear HB; have BK158 := n0_; have BK159 := n1_; have BK160 := n2_; have HB := n3_; clear n0_ n1_ n2_ n3_; (try clear hb); (try clear hb2); (try clear hk); (try clear hi)))
      repeat (go_quiet (first | (go_at_call 29; (with_reducible refine (impl_IsRatio.calls k a0_0 a0_1 false _ A8.out).mono ?_); rintro e w32 ⟨rfl, hb⟩; have n0_ := Aside0.mk (blk_below (g := gb158) (o := .cells #[.int .i64 a0_0, .int .i64 a0_1] 42 (0, 0)) (xb BK158.out) hb); have n1_ := Aside0.mk (blk_below (g := gb159) (o := .cells #[.int .i64 a1_0, .int .i64 a1_1] 42 (0, 0)) (xb BK159.out) hb); have n2_ := Aside0.mk (blk_below (g := gb160) (o := .cells #[.int .i64 a2_0, .int .i64 a2_1] 42 (0, 0)) (xb BK160.out) hb); have n3_ := Aside0.mk (below_step (xs HB.out) hb); clear BK158; clear BK159; clear BK160; clear HB; have BK158 := n0_; have BK159 := n1_; have BK160 := n2_; have HB := n3_; clear n0_ n1_ n2_ n3_; (try clear hb); (try clear hb2); (try clear hk); (try clear hi))); try go_wp2_with (first | (go_at_call 29; (with_reducible refine (impl_IsRatio.calls k a0_0 a0_1 false _ A8.out).mono ?_); rintro e w32 ⟨rfl, hb⟩; have n0_ := Aside0.mk (blk_below (g := gb158) (o := .cells #[.int .i64 a0_0, .int .i64 a0_1] 42 (0, 0)) (xb BK158.out) hb); have n1_ := Aside0.mk (blk_below (g := gb159) (o := .cells #[.int .i64 a1_0, .int .i64 a1_1] 42 (0, 0)) (xb BK159.out) hb); have n2_ := Aside0.mk (blk_below (g := gb160) (o := .cells #[.int .i64 a2_0, .int .i64 a2_1] 42 (0, 0)) (xb BK160.out) hb); have n3_ := Aside0.mk (below_step (xs HB.out) hb); clear BK158; clear BK159; clear BK160; clear HB; have BK158 := n0_; have BK159 := n1_; have BK160 := n2_; have HB := n3_; clear n0_ n1_ n2_ n3_; (try clear hb); (try clear hb2); (try clear hk); (try clear hi))))
      go_meet
      case rel => exact ⟨_, (true), (by first | rfl | (simp; done) | (simp [*]; done)), H', ⟨by first | omega | exact Nat.le_refl _⟩, ⟨xb BK158.out⟩, ⟨xb BK159.out⟩, ⟨xb BK160.out⟩, ⟨xs HB.out⟩⟩
  case rest =>
    clear HC4
    try clear c1
    try clear c2
    try clear p2
    try clear c3
    try clear c4
    try clear c9
    try clear c11
    try clear c13
    try clear c14
    try clear c17
    try clear c22
    try clear c23
    try clear c26
    try clear c29
    try clear c30
    try clear hcz15_0
    try clear hcz15_1
    try clear hcz18_0
    try clear hcz18_1
    try clear hcz20_0
    try clear hcz20_1
    try clear hcz24_0
    try clear hcz24_1
    try clear hcz27_0
    try clear hcz27_1
    try clear hcz31_0
    try clear hcz31_1
    try clear hfz15_0
    try clear hfz15_1
    try clear hfz18_0
    try clear hfz18_1
    try clear hfz20_0
    try clear hfz20_1
    try clear hfz24_0
    try clear hfz24_1
    try clear hfz27_0
    try clear hfz27_1
    try clear hfz31_0
    try clear hfz31_1
    obtain ⟨kq, x31_3, rfl, HA, HJ3, BK158, BK159, BK160, HB⟩ := hcut
    cases kq with
    | zero => exact absurd HA.out (by simp [impl_BlendAmounts.j0])
    | succ kj3 =>
      have H := HA.out
      clear HA
      simp only [impl_BlendAmounts.j0] at H
      by_cases c33 : x31_3 = true
      · subst c33
        have H1 : (some (0, 0, false)) = some (r1, r2, r3) := by rw [if_pos rfl] at H; exact H
        clear H
        have H := H1
        clear H1
        simp only [Option.some.injEq, Prod.mk.injEq] at H
        obtain ⟨rfl, rfl, rfl⟩ := H
        go_wp2
        repeat (go_quiet (fail); try go_wp2)
        go_ret3
        exact ⟨by first | rfl | (simp [errW_none, errW_some] <;> rfl) | (simp [*, errW_none, errW_some] <;> rfl), by repeat (first | (with_reducible first | exact HB.out | apply below_alloc | apply pw_below_drewN | apply below_drew1 | refine below_set ?_ GE158.out | refine below_set ?_ GE159.out | refine below_set ?_ GE160.out) | exact HB.out)⟩
      · replace c33 := Bool.eq_false_iff.mpr c33
        subst c33
        have H1 : (if (wrap64 ((wrap64 (a0_0 * a2_1)) - (wrap64 (a2_0 * a0_1)))) = 0 then (some (1, 0, true)) else (if (wrap64 ((wrap64 (a2_0 * a1_1)) - (wrap64 (a1_0 * a2_1)))) = 0 then (some (0, 1, true)) else (if ((decide ((wrap64 ((wrap64 (a2_0 * a1_1)) - (wrap64 (a1_0 * a2_1)))) < 0)) != (decide ((wrap64 ((wrap64 (a0_0 * a2_1)) - (wrap64 (a2_0 * a0_1)))) < 0))) = true then (some (0, 0, false)) else ((impl_gcd.f kj3 (mx (wrap64 ((wrap64 (a2_0 * a1_1)) - (wrap64 (a1_0 * a2_1)))) (wrap64 (-(wrap64 ((wrap64 (a2_0 * a1_1)) - (wrap64 (a1_0 * a2_1))))))) (mx (wrap64 ((wrap64 (a0_0 * a2_1)) - (wrap64 (a2_0 * a0_1)))) (wrap64 (-(wrap64 ((wrap64 (a0_0 * a2_1)) - (wrap64 (a2_0 * a0_1)))))))).bind fun t164 => ((impl_gcd.f kj3 a0_1 a1_1).bind fun t165 => (if t164 = 0 then (none) else (if t165 = 0 then (none) else ((impl_gcd.f kj3 (wrap64 (Int.tdiv (mx (wrap64 ((wrap64 (a2_0 * a1_1)) - (wrap64 (a1_0 * a2_1)))) (wrap64 (-(wrap64 ((wrap64 (a2_0 * a1_1)) - (wrap64 (a1_0 * a2_1))))))) t164)) (wrap64 (Int.tdiv a1_1 t165))).bind fun t166 => ((impl_gcd.f kj3 (wrap64 (Int.tdiv (mx (wrap64 ((wrap64 (a0_0 * a2_1)) - (wrap64 (a2_0 * a0_1)))) (wrap64 (-(wrap64 ((wrap64 (a0_0 * a2_1)) - (wrap64 (a2_0 * a0_1))))))) t164)) (wrap64 (Int.tdiv a0_1 t165))).bind fun t167 => (if t166 = 0 then (none) else (if t167 = 0 then (none) else ((impl_product.f (wrap64 (Int.tdiv (wrap64 (Int.tdiv (mx (wrap64 ((wrap64 (a2_0 * a1_1)) - (wrap64 (a1_0 * a2_1)))) (wrap64 (-(wrap64 ((wrap64 (a2_0 * a1_1)) - (wrap64 (a1_0 * a2_1))))))) t164)) t166)) (wrap64 (Int.tdiv (wrap64 (Int.tdiv a0_1 t165)) t167))).bind fun bt168 => ((impl_product.f (wrap64 (Int.tdiv (wrap64 (Int.tdiv (mx (wrap64 ((wrap64 (a0_0 * a2_1)) - (wrap64 (a2_0 * a0_1)))) (wrap64 (-(wrap64 ((wrap64 (a0_0 * a2_1)) - (wrap64 (a2_0 * a0_1))))))) t164)) t167)) (wrap64 (Int.tdiv (wrap64 (Int.tdiv a1_1 t165)) t166))).bind fun bt170 => (if bt168.2 = true then (if bt170.2 = true then (some (bt168.1, bt170.1, true)) else (some (0, 0, false))) else (some (0, 0, false)))))))))))))))) = some (r1, r2, r3) := by rw [if_neg (show ¬ (false = true) by decide)] at H; exact H
        clear H
        have H := H1
        clear H1
        by_cases c34 : (wrap64 ((wrap64 (a0_0 * a2_1)) - (wrap64 (a2_0 * a0_1)))) = 0
        · rw [if_pos c34] at H
          have c34b0 : ((wrap64 ((wrap64 (a0_0 * a2_1)) - (wrap64 (a2_0 * a0_1)))) == 0) = true := beq_iff_eq.mpr c34
          have c34b1 : ((wrap64 ((wrap64 (a0_0 * a2_1)) - (wrap64 (a2_0 * a0_1)))) != 0) = false := bne_eq_false_iff_eq.mpr c34
          clear c34
          simp only [Option.some.injEq, Prod.mk.injEq] at H
          obtain ⟨rfl, rfl, rfl⟩ := H
          have hnb35 := NB160_158.out
          have hnc35 := NB158_160.out
          have hnb36 := NB160_159.out
          have hnc36 := NB159_160.out
          have hcz37_0 : wc.cell? ⟨gb160, 0, none⟩ = some (.int .i64 a2_0) := (blk_cell BK160.out 0).trans rfl
          have hcz37_1 : wc.cell? ⟨gb160, 1, none⟩ = some (.int .i64 a2_1) := (blk_cell BK160.out 1).trans rfl
          have hfz37_0 := blk_frozen BK160.out 0
          have hfz37_1 := blk_frozen BK160.out 1
          have hnb38 := NB159_158.out
          have hnc38 := NB158_159.out
          have hcz39_0 : wc.cell? ⟨gb159, 0, none⟩ = some (.int .i64 a1_0) := (blk_cell BK159.out 0).trans rfl
          have hcz39_1 : wc.cell? ⟨gb159, 1, none⟩ = some (.int .i64 a1_1) := (blk_cell BK159.out 1).trans rfl
          have hfz39_0 := blk_frozen BK159.out 0
          have hfz39_1 := blk_frozen BK159.out 1
          have hcz40_0 : wc.cell? ⟨gb158, 0, none⟩ = some (.int .i64 a0_0) := (blk_cell BK158.out 0).trans rfl
          have hcz40_1 : wc.cell? ⟨gb158, 1, none⟩ = some (.int .i64 a0_1) := (blk_cell BK158.out 1).trans rfl
          have hfz40_0 := blk_frozen BK158.out 0
          have hfz40_1 := blk_frozen BK158.out 1
          go_wp2
          repeat (go_quiet (fail); try go_wp2)
          go_ret3
          exact ⟨by first | rfl | (simp [errW_none, errW_some] <;> rfl) | (simp [*, errW_none, errW_some] <;> rfl), by repeat (first | (with_reducible first | exact HB.out | apply below_alloc | apply pw_below_drewN | apply below_drew1 | refine below_set ?_ GE158.out | refine below_set ?_ GE159.out | refine below_set ?_ GE160.out) | exact HB.out)⟩
        · rw [if_neg c34] at H
          have c34b0 : ((wrap64 ((wrap64 (a0_0 * a2_1)) - (wrap64 (a2_0 * a0_1)))) == 0) = false := beq_eq_false_iff_ne.mpr c34
          have c34b1 : ((wrap64 ((wrap64 (a0_0 * a2_1)) - (wrap64 (a2_0 * a0_1)))) != 0) = true := bne_iff_ne.mpr c34
          by_cases c41 : (wrap64 ((wrap64 (a2_0 * a1_1)) - (wrap64 (a1_0 * a2_1)))) = 0
          · rw [if_pos c41] at H
            have c41b0 : ((wrap64 ((wrap64 (a2_0 * a1_1)) - (wrap64 (a1_0 * a2_1)))) == 0) = true := beq_iff_eq.mpr c41
            have c41b1 : ((wrap64 ((wrap64 (a2_0 * a1_1)) - (wrap64 (a1_0 * a2_1)))) != 0) = false := bne_eq_false_iff_eq.mpr c41
            clear c41
            simp only [Option.some.injEq, Prod.mk.injEq] at H
            obtain ⟨rfl, rfl, rfl⟩ := H
            have hnb42 := NB160_158.out
            have hnc42 := NB158_160.out
            have hnb43 := NB160_159.out
            have hnc43 := NB159_160.out
            have hcz44_0 : wc.cell? ⟨gb160, 0, none⟩ = some (.int .i64 a2_0) := (blk_cell BK160.out 0).trans rfl
            have hcz44_1 : wc.cell? ⟨gb160, 1, none⟩ = some (.int .i64 a2_1) := (blk_cell BK160.out 1).trans rfl
            have hfz44_0 := blk_frozen BK160.out 0
            have hfz44_1 := blk_frozen BK160.out 1
            have hnb45 := NB159_158.out
            have hnc45 := NB158_159.out
            have hcz46_0 : wc.cell? ⟨gb159, 0, none⟩ = some (.int .i64 a1_0) := (blk_cell BK159.out 0).trans rfl
            have hcz46_1 : wc.cell? ⟨gb159, 1, none⟩ = some (.int .i64 a1_1) := (blk_cell BK159.out 1).trans rfl
            have hfz46_0 := blk_frozen BK159.out 0
            have hfz46_1 := blk_frozen BK159.out 1
            have hcz47_0 : wc.cell? ⟨gb158, 0, none⟩ = some (.int .i64 a0_0) := (blk_cell BK158.out 0).trans rfl
            have hcz47_1 : wc.cell? ⟨gb158, 1, none⟩ = some (.int .i64 a0_1) := (blk_cell BK158.out 1).trans rfl
            have hfz47_0 := blk_frozen BK158.out 0
            have hfz47_1 := blk_frozen BK158.out 1
            go_wp2
            repeat (go_quiet (fail); try go_wp2)
            go_ret3
            exact ⟨by first | rfl | (simp [errW_none, errW_some] <;> rfl) | (simp [*, errW_none, errW_some] <;> rfl), by repeat (first | (with_reducible first | exact HB.out | apply below_alloc | apply pw_below_drewN | apply below_drew1 | refine below_set ?_ GE158.out | refine below_set ?_ GE159.out | refine below_set ?_ GE160.out) | exact HB.out)⟩
          · rw [if_neg c41] at H
            have c41b0 : ((wrap64 ((wrap64 (a2_0 * a1_1)) - (wrap64 (a1_0 * a2_1)))) == 0) = false := beq_eq_false_iff_ne.mpr c41
            have c41b1 : ((wrap64 ((wrap64 (a2_0 * a1_1)) - (wrap64 (a1_0 * a2_1)))) != 0) = true := bne_iff_ne.mpr c41
            by_cases c48 : ((decide ((wrap64 ((wrap64 (a2_0 * a1_1)) - (wrap64 (a1_0 * a2_1)))) < 0)) != (decide ((wrap64 ((wrap64 (a0_0 * a2_1)) - (wrap64 (a2_0 * a0_1)))) < 0))) = true
            · rw [if_pos c48] at H
              have c48b0 : ((decide ((wrap64 ((wrap64 (a2_0 * a1_1)) - (wrap64 (a1_0 * a2_1)))) < 0)) != (decide ((wrap64 ((wrap64 (a0_0 * a2_1)) - (wrap64 (a2_0 * a0_1)))) < 0))) = true := c48
              (try (have c48b1 : decide ((decide ((wrap64 ((wrap64 (a2_0 * a1_1)) - (wrap64 (a1_0 * a2_1)))) < 0)) = (decide ((wrap64 ((wrap64 (a0_0 * a2_1)) - (wrap64 (a2_0 * a0_1)))) < 0))) = false := by simpa using c48))
              (try (have c48b2 : ((decide ((wrap64 ((wrap64 (a2_0 * a1_1)) - (wrap64 (a1_0 * a2_1)))) < 0)) == (decide ((wrap64 ((wrap64 (a0_0 * a2_1)) - (wrap64 (a2_0 * a0_1)))) < 0))) = false := by simpa using c48))
              (try (have c48b3 : ¬ ((decide ((wrap64 ((wrap64 (a2_0 * a1_1)) - (wrap64 (a1_0 * a2_1)))) < 0)) = (decide ((wrap64 ((wrap64 (a0_0 * a2_1)) - (wrap64 (a2_0 * a0_1)))) < 0))) := by simpa using c48))
              clear c48
              simp only [Option.some.injEq, Prod.mk.injEq] at H
              obtain ⟨rfl, rfl, rfl⟩ := H
              have hnb49 := NB160_158.out
              have hnc49 := NB158_160.out
              have hnb50 := NB160_159.out
              have hnc50 := NB159_160.out
              have hcz51_0 : wc.cell? ⟨gb160, 0, none⟩ = some (.int .i64 a2_0) := (blk_cell BK160.out 0).trans rfl
              have hcz51_1 : wc.cell? ⟨gb160, 1, none⟩ = some (.int .i64 a2_1) := (blk_cell BK160.out 1).trans rfl
              have hfz51_0 := blk_frozen BK160.out 0
              have hfz51_1 := blk_frozen BK160.out 1
              have hnb52 := NB159_158.out
              have hnc52 := NB158_159.out
              have hcz53_0 : wc.cell? ⟨gb159, 0, none⟩ = some (.int .i64 a1_0) := (blk_cell BK159.out 0).trans rfl
              have hcz53_1 : wc.cell? ⟨gb159, 1, none⟩ = some (.int .i64 a1_1) := (blk_cell BK159.out 1).trans rfl
              have hfz53_0 := blk_frozen BK159.out 0
              have hfz53_1 := blk_frozen BK159.out 1
              have hcz54_0 : wc.cell? ⟨gb158, 0, none⟩ = some (.int .i64 a0_0) := (blk_cell BK158.out 0).trans rfl
              have hcz54_1 : wc.cell? ⟨gb158, 1, none⟩ = some (.int .i64 a0_1) := (blk_cell BK158.out 1).trans rfl
              have hfz54_0 := blk_frozen BK158.out 0
              have hfz54_1 := blk_frozen BK158.out 1
              go_wp2
              repeat (go_quiet (fail); try go_wp2)
              go_ret3
              exact ⟨by first | rfl | (simp [errW_none, errW_some] <;> rfl) | (simp [*, errW_none, errW_some] <;> rfl), by repeat (first | (with_reducible first | exact HB.out | apply below_alloc | apply pw_below_drewN | apply below_drew1 | refine below_set ?_ GE158.out | refine below_set ?_ GE159.out | refine below_set ?_ GE160.out) | exact HB.out)⟩
            · rw [if_neg c48] at H
              have c48b0 : ((decide ((wrap64 ((wrap64 (a2_0 * a1_1)) - (wrap64 (a1_0 * a2_1)))) < 0)) != (decide ((wrap64 ((wrap64 (a0_0 * a2_1)) - (wrap64 (a2_0 * a0_1)))) < 0))) = false := by simpa using c48
              (try (have c48b1 : decide ((decide ((wrap64 ((wrap64 (a2_0 * a1_1)) - (wrap64 (a1_0 * a2_1)))) < 0)) = (decide ((wrap64 ((wrap64 (a0_0 * a2_1)) - (wrap64 (a2_0 * a0_1)))) < 0))) = true := by simpa using c48))
              (try (have c48b2 : ((decide ((wrap64 ((wrap64 (a2_0 * a1_1)) - (wrap64 (a1_0 * a2_1)))) < 0)) == (decide ((wrap64 ((wrap64 (a0_0 * a2_1)) - (wrap64 (a2_0 * a0_1)))) < 0))) = true := by simpa using c48))
              clear c48
              obtain ⟨ji55, hji55⟩ : ∃ j_ : Int, (mx (wrap64 ((wrap64 (a2_0 * a1_1)) - (wrap64 (a1_0 * a2_1)))) (wrap64 (-(wrap64 ((wrap64 (a2_0 * a1_1)) - (wrap64 (a1_0 * a2_1))))))) = j_ := ⟨_, rfl⟩
              replace H : ((impl_gcd.f kj3 (ji55) (mx (wrap64 ((wrap64 (a0_0 * a2_1)) - (wrap64 (a2_0 * a0_1)))) (wrap64 (-(wrap64 ((wrap64 (a0_0 * a2_1)) - (wrap64 (a2_0 * a0_1)))))))).bind fun t164 => ((impl_gcd.f kj3 a0_1 a1_1).bind fun t165 => (if t164 = 0 then (none) else (if t165 = 0 then (none) else ((impl_gcd.f kj3 (wrap64 (Int.tdiv (ji55) t164)) (wrap64 (Int.tdiv a1_1 t165))).bind fun t166 => ((impl_gcd.f kj3 (wrap64 (Int.tdiv (mx (wrap64 ((wrap64 (a0_0 * a2_1)) - (wrap64 (a2_0 * a0_1)))) (wrap64 (-(wrap64 ((wrap64 (a0_0 * a2_1)) - (wrap64 (a2_0 * a0_1))))))) t164)) (wrap64 (Int.tdiv a0_1 t165))).bind fun t167 => (if t166 = 0 then (none) else (if t167 = 0 then (none) else ((impl_product.f (wrap64 (Int.tdiv (wrap64 (Int.tdiv (ji55) t164)) t166)) (wrap64 (Int.tdiv (wrap64 (Int.tdiv a0_1 t165)) t167))).bind fun bt168 => ((impl_product.f (wrap64 (Int.tdiv (wrap64 (Int.tdiv (mx (wrap64 ((wrap64 (a0_0 * a2_1)) - (wrap64 (a2_0 * a0_1)))) (wrap64 (-(wrap64 ((wrap64 (a0_0 * a2_1)) - (wrap64 (a2_0 * a0_1))))))) t164)) t167)) (wrap64 (Int.tdiv (wrap64 (Int.tdiv a1_1 t165)) t166))).bind fun bt170 => (if bt168.2 = true then (if bt170.2 = true then (some (bt168.1, bt170.1, true)) else (some (0, 0, false))) else (some (0, 0, false))))))))))))) = some (r1, r2, r3) := by first | (rw [hji55] at H; exact H) | (simp only [hji55] at H ⊢; exact H)
              have hji55_ : (if (wrap64 ((wrap64 (a2_0 * a1_1)) - (wrap64 (a1_0 * a2_1)))) < (wrap64 (-(wrap64 ((wrap64 (a2_0 * a1_1)) - (wrap64 (a1_0 * a2_1)))))) then (wrap64 (-(wrap64 ((wrap64 (a2_0 * a1_1)) - (wrap64 (a1_0 * a2_1)))))) else (wrap64 ((wrap64 (a2_0 * a1_1)) - (wrap64 (a1_0 * a2_1))))) = ji55 := hji55
              obtain ⟨ji56, hji56⟩ : ∃ j_ : Int, (mx (wrap64 ((wrap64 (a0_0 * a2_1)) - (wrap64 (a2_0 * a0_1)))) (wrap64 (-(wrap64 ((wrap64 (a0_0 * a2_1)) - (wrap64 (a2_0 * a0_1))))))) = j_ := ⟨_, rfl⟩
              replace H : ((impl_gcd.f kj3 (ji55) (ji56)).bind fun t164 => ((impl_gcd.f kj3 a0_1 a1_1).bind fun t165 => (if t164 = 0 then (none) else (if t165 = 0 then (none) else ((impl_gcd.f kj3 (wrap64 (Int.tdiv (ji55) t164)) (wrap64 (Int.tdiv a1_1 t165))).bind fun t166 => ((impl_gcd.f kj3 (wrap64 (Int.tdiv (ji56) t164)) (wrap64 (Int.tdiv a0_1 t165))).bind fun t167 => (if t166 = 0 then (none) else (if t167 = 0 then (none) else ((impl_product.f (wrap64 (Int.tdiv (wrap64 (Int.tdiv (ji55) t164)) t166)) (wrap64 (Int.tdiv (wrap64 (Int.tdiv a0_1 t165)) t167))).bind fun bt168 => ((impl_product.f (wrap64 (Int.tdiv (wrap64 (Int.tdiv (ji56) t164)) t167)) (wrap64 (Int.tdiv (wrap64 (Int.tdiv a1_1 t165)) t166))).bind fun bt170 => (if bt168.2 = true then (if bt170.2 = true then (some (bt168.1, bt170.1, true)) else (some (0, 0, false))) else (some (0, 0, false))))))))))))) = some (r1, r2, r3) := by first | (rw [hji56] at H; exact H) | (simp only [hji56] at H ⊢; exact H)
              have hji56_ : (if (wrap64 ((wrap64 (a0_0 * a2_1)) - (wrap64 (a2_0 * a0_1)))) < (wrap64 (-(wrap64 ((wrap64 (a0_0 * a2_1)) - (wrap64 (a2_0 * a0_1)))))) then (wrap64 (-(wrap64 ((wrap64 (a0_0 * a2_1)) - (wrap64 (a2_0 * a0_1)))))) else (wrap64 ((wrap64 (a0_0 * a2_1)) - (wrap64 (a2_0 * a0_1))))) = ji56 := hji56
              replace H := Option.bind_eq_some_iff.mp H
              obtain ⟨t164, A570, H⟩ := H
              replace H : ((impl_gcd.f kj3 a0_1 a1_1).bind fun t165 => (if t164 = 0 then (none) else (if t165 = 0 then (none) else ((impl_gcd.f kj3 (wrap64 (Int.tdiv (ji55) t164)) (wrap64 (Int.tdiv a1_1 t165))).bind fun t166 => ((impl_gcd.f kj3 (wrap64 (Int.tdiv (ji56) t164)) (wrap64 (Int.tdiv a0_1 t165))).bind fun t167 => (if t166 = 0 then (none) else (if t167 = 0 then (none) else ((impl_product.f (wrap64 (Int.tdiv (wrap64 (Int.tdiv (ji55) t164)) t166)) (wrap64 (Int.tdiv (wrap64 (Int.tdiv a0_1 t165)) t167))).bind fun bt168 => ((impl_product.f (wrap64 (Int.tdiv (wrap64 (Int.tdiv (ji56) t164)) t167)) (wrap64 (Int.tdiv (wrap64 (Int.tdiv a1_1 t165)) t166))).bind fun bt170 => (if bt168.2 = true then (if bt170.2 = true then (some (bt168.1, bt170.1, true)) else (some (0, 0, false))) else (some (0, 0, false)))))))))))) = some (r1, r2, r3) := H
              have A57 := Aside0.mk A570
              clear A570
              replace H := Option.bind_eq_some_iff.mp H
              obtain ⟨t165, A580, H⟩ := H
              replace H : (if t164 = 0 then (none) else (if t165 = 0 then (none) else ((impl_gcd.f kj3 (wrap64 (Int.tdiv (ji55) t164)) (wrap64 (Int.tdiv a1_1 t165))).bind fun t166 => ((impl_gcd.f kj3 (wrap64 (Int.tdiv (ji56) t164)) (wrap64 (Int.tdiv a0_1 t165))).bind fun t167 => (if t166 = 0 then (none) else (if t167 = 0 then (none) else ((impl_product.f (wrap64 (Int.tdiv (wrap64 (Int.tdiv (ji55) t164)) t166)) (wrap64 (Int.tdiv (wrap64 (Int.tdiv a0_1 t165)) t167))).bind fun bt168 => ((impl_product.f (wrap64 (Int.tdiv (wrap64 (Int.tdiv (ji56) t164)) t167)) (wrap64 (Int.tdiv (wrap64 (Int.tdiv a1_1 t165)) t166))).bind fun bt170 => (if bt168.2 = true then (if bt170.2 = true then (some (bt168.1, bt170.1, true)) else (some (0, 0, false))) else (some (0, 0, false))))))))))) = some (r1, r2, r3) := H
              have A58 := Aside0.mk A580
              clear A580
              by_cases c59 : t164 = 0
              · rw [if_pos c59] at H
                exact absurd H (by simp)
              · rw [if_neg c59] at H
                have c59b0 : (t164 == 0) = false := beq_eq_false_iff_ne.mpr c59
                have c59b1 : (t164 != 0) = true := bne_iff_ne.mpr c59
                by_cases c60 : t165 = 0
                · rw [if_pos c60] at H
                  exact absurd H (by simp)
                · rw [if_neg c60] at H
                  have c60b0 : (t165 == 0) = false := beq_eq_false_iff_ne.mpr c60
                  have c60b1 : (t165 != 0) = true := bne_iff_ne.mpr c60
                  replace H := Option.bind_eq_some_iff.mp H
                  obtain ⟨t166, A610, H⟩ := H
                  replace H : ((impl_gcd.f kj3 (wrap64 (Int.tdiv (ji56) t164)) (wrap64 (Int.tdiv a0_1 t165))).bind fun t167 => (if t166 = 0 then (none) else (if t167 = 0 then (none) else ((impl_product.f (wrap64 (Int.tdiv (wrap64 (Int.tdiv (ji55) t164)) t166)) (wrap64 (Int.tdiv (wrap64 (Int.tdiv a0_1 t165)) t167))).bind fun bt168 => ((impl_product.f (wrap64 (Int.tdiv (wrap64 (Int.tdiv (ji56) t164)) t167)) (wrap64 (Int.tdiv (wrap64 (Int.tdiv a1_1 t165)) t166))).bind fun bt170 => (if bt168.2 = true then (if bt170.2 = true then (some (bt168.1, bt170.1, true)) else (some (0, 0, false))) else (some (0, 0, false)))))))) = some (r1, r2, r3) := H
                  have A61 := Aside0.mk A610
                  clear A610
                  replace H := Option.bind_eq_some_iff.mp H
                  obtain ⟨t167, A620, H⟩ := H
                  replace H : (if t166 = 0 then (none) else (if t167 = 0 then (none) else ((impl_product.f (wrap64 (Int.tdiv (wrap64 (Int.tdiv (ji55) t164)) t166)) (wrap64 (Int.tdiv (wrap64 (Int.tdiv a0_1 t165)) t167))).bind fun bt168 => ((impl_product.f (wrap64 (Int.tdiv (wrap64 (Int.tdiv (ji56) t164)) t167)) (wrap64 (Int.tdiv (wrap64 (Int.tdiv a1_1 t165)) t166))).bind fun bt170 => (if bt168.2 = true then (if bt170.2 = true then (some (bt168.1, bt170.1, true)) else (some (0, 0, false))) else (some (0, 0, false))))))) = some (r1, r2, r3) := H
                  have A62 := Aside0.mk A620
                  clear A620
                  by_cases c63 : t166 = 0
                  · rw [if_pos c63] at H
                    exact absurd H (by simp)
                  · rw [if_neg c63] at H
                    have c63b0 : (t166 == 0) = false := beq_eq_false_iff_ne.mpr c63
                    have c63b1 : (t166 != 0) = true := bne_iff_ne.mpr c63
                    by_cases c64 : t167 = 0
                    · rw [if_pos c64] at H
                      exact absurd H (by simp)
                    · rw [if_neg c64] at H
                      have c64b0 : (t167 == 0) = false := beq_eq_false_iff_ne.mpr c64
                      have c64b1 : (t167 != 0) = true := bne_iff_ne.mpr c64
                      replace H := Option.bind_eq_some_iff.mp H
                      obtain ⟨⟨t168, t169⟩, A650, H⟩ := H
                      replace H : ((impl_product.f (wrap64 (Int.tdiv (wrap64 (Int.tdiv (ji56) t164)) t167)) (wrap64 (Int.tdiv (wrap64 (Int.tdiv a1_1 t165)) t166))).bind fun bt170 => (if t169 = true then (if bt170.2 = true then (some (t168, bt170.1, true)) else (some (0, 0, false))) else (some (0, 0, false)))) = some (r1, r2, r3) := H
                      have A65 := Aside0.mk A650
                      clear A650
                      replace H := Option.bind_eq_some_iff.mp H
                      obtain ⟨⟨t170, t171⟩, A660, H⟩ := H
                      replace H : (if t169 = true then (if t171 = true then (some (t168, t170, true)) else (some (0, 0, false))) else (some (0, 0, false))) = some (r1, r2, r3) := H
                      have A66 := Aside0.mk A660
                      clear A660
                      by_cases c67 : t169 = true
                      · subst c67
                        have H1 : (if t171 = true then (some (t168, t170, true)) else (some (0, 0, false))) = some (r1, r2, r3) := by rw [if_pos rfl] at H; exact H
                        clear H
                        have H := H1
                        clear H1
                        by_cases c68 : t171 = true
                        · subst c68
                          have H1 : (some (t168, t170, true)) = some (r1, r2, r3) := by rw [if_pos rfl] at H; exact H
                          clear H
                          have H := H1
                          clear H1
                          simp only [Option.some.injEq, Prod.mk.injEq] at H
                          obtain ⟨rfl, rfl, rfl⟩ := H
                          have hnb69 := NB160_158.out
                          have hnc69 := NB158_160.out
                          have hnb70 := NB160_159.out
                          have hnc70 := NB159_160.out
                          have hcz71_0 : wc.cell? ⟨gb160, 0, none⟩ = some (.int .i64 a2_0) := (blk_cell BK160.out 0).trans rfl
                          have hcz71_1 : wc.cell? ⟨gb160, 1, none⟩ = some (.int .i64 a2_1) := (blk_cell BK160.out 1).trans rfl
                          have hfz71_0 := blk_frozen BK160.out 0
                          have hfz71_1 := blk_frozen BK160.out 1
                          have hnb72 := NB159_158.out
                          have hnc72 := NB158_159.out
                          have hcz73_0 : wc.cell? ⟨gb159, 0, none⟩ = some (.int .i64 a1_0) := (blk_cell BK159.out 0).trans rfl
                          have hcz73_1 : wc.cell? ⟨gb159, 1, none⟩ = some (.int .i64 a1_1) := (blk_cell BK159.out 1).trans rfl
                          have hfz73_0 := blk_frozen BK159.out 0
                          have hfz73_1 := blk_frozen BK159.out 1
                          have hcz74_0 : wc.cell? ⟨gb158, 0, none⟩ = some (.int .i64 a0_0) := (blk_cell BK158.out 0).trans rfl
                          have hcz74_1 : wc.cell? ⟨gb158, 1, none⟩ = some (.int .i64 a0_1) := (blk_cell BK158.out 1).trans rfl
                          have hfz74_0 := blk_frozen BK158.out 0
                          have hfz74_1 := blk_frozen BK158.out 1
                          go_wp2_with (first | (go_at_call 56; (with_reducible refine (impl_gcd.calls kj3 ji55 ji56 t164 _ A57.out).mono ?_); rintro e w' ⟨rfl, ⟨nd, rfl⟩⟩; (try first | exact ⟨rfl, _, World.drewN_drewN _ _ _⟩ | exact ⟨rfl, _, Eq.trans (World.drewN_drewN _ _ _) (congrArg (World.drewN _) (Nat.add_assoc _ _ _))⟩)) | (go_at_call 56; (with_reducible refine (impl_gcd.calls kj3 a0_1 a1_1 t165 _ A58.out).mono ?_); rintro e w' ⟨rfl, ⟨nd, rfl⟩⟩; (try first | exact ⟨rfl, _, World.drewN_drewN _ _ _⟩ | exact ⟨rfl, _, Eq.trans (World.drewN_drewN _ _ _) (congrArg (World.drewN _) (Nat.add_assoc _ _ _))⟩)) | (go_at_call 56; (try simp only [i64_w, i32_w]); (with_reducible refine (impl_gcd.calls kj3 (wrap64 (Int.tdiv (ji55) t164)) (wrap64 (Int.tdiv a1_1 t165)) t166 _ A61.out).mono ?_); rintro e w' ⟨rfl, ⟨nd, rfl⟩⟩; (try first | exact ⟨rfl, _, World.drewN_drewN _ _ _⟩ | exact ⟨rfl, _, Eq.trans (World.drewN_drewN _ _ _) (congrArg (World.drewN _) (Nat.add_assoc _ _ _))⟩)) | (go_at_call 56; (try simp only [i64_w, i32_w]); (with_reducible refine (impl_gcd.calls kj3 (wrap64 (Int.tdiv (ji56) t164)) (wrap64 (Int.tdiv a0_1 t165)) t167 _ A62.out).mono ?_); rintro e w' ⟨rfl, ⟨nd, rfl⟩⟩; (try first | exact ⟨rfl, _, World.drewN_drewN _ _ _⟩ | exact ⟨rfl, _, Eq.trans (World.drewN_drewN _ _ _) (congrArg (World.drewN _) (Nat.add_assoc _ _ _))⟩)) | (go_at_call 75; (try simp only [i64_w, i32_w]); (with_reducible refine (impl_product.calls (wrap64 (Int.tdiv (wrap64 (Int.tdiv (ji55) t164)) t166)) (wrap64 (Int.tdiv (wrap64 (Int.tdiv a0_1 t165)) t167)) t168 true _ A65.out).mono ?_); rintro e w' ⟨rfl, ⟨nd, rfl⟩⟩; (try first | exact ⟨rfl, _, World.drewN_drewN _ _ _⟩ | exact ⟨rfl, _, Eq.trans (World.drewN_drewN _ _ _) (congrArg (World.drewN _) (Nat.add_assoc _ _ _))⟩)) | (go_at_call 75; (try simp only [i64_w, i32_w]); (with_reducible refine (impl_product.calls (wrap64 (Int.tdiv (wrap64 (Int.tdiv (ji56) t164)) t167)) (wrap64 (Int.tdiv (wrap64 (Int.tdiv a1_1 t165)) t166)) t170 true _ A66.out).mono ?_); rintro e w' ⟨rfl, ⟨nd, rfl⟩⟩; (try first | exact ⟨rfl, _, World.drewN_drewN _ _ _⟩ | exact ⟨rfl, _, Eq.trans (World.drewN_drewN _ _ _) (congrArg (World.drewN _) (Nat.add_assoc _ _ _))⟩)))
                          repeat (go_quiet (first | (go_at_call 56; (with_reducible refine (impl_gcd.calls kj3 ji55 ji56 t164 _ A57.out).mono ?_); rintro e w' ⟨rfl, ⟨nd, rfl⟩⟩; (try first | exact ⟨rfl, _, World.drewN_drewN _ _ _⟩ | exact ⟨rfl, _, Eq.trans (World.drewN_drewN _ _ _) (congrArg (World.drewN _) (Nat.add_assoc _ _ _))⟩)) | (go_at_call 56; (with_reducible refine (impl_gcd.calls kj3 a0_1 a1_1 t165 _ A58.out).mono ?_); rintro e w' ⟨rfl, ⟨nd, rfl⟩⟩; (try first | exact ⟨rfl, _, World.drewN_drewN _ _ _⟩ | exact ⟨rfl, _, Eq.trans (World.drewN_drewN _ _ _) (congrArg (World.drewN _) (Nat.add_assoc _ _ _))⟩)) | (go_at_call 56; (try simp only [i64_w, i32_w]); (with_reducible refine (impl_gcd.calls kj3 (wrap64 (Int.tdiv (ji55) t164)) (wrap64 (Int.tdiv a1_1 t165)) t166 _ A61.out).mono ?_); rintro e w' ⟨rfl, ⟨nd, rfl⟩⟩; (try first | exact ⟨rfl, _, World.drewN_drewN _ _ _⟩ | exact ⟨rfl, _, Eq.trans (World.drewN_drewN _ _ _) (congrArg (World.drewN _) (Nat.add_assoc _ _ _))⟩)) | (go_at_call 56; (try simp only [i64_w, i32_w]); (with_reducible refine (impl_gcd.calls kj3 (wrap64 (Int.tdiv (ji56) t164)) (wrap64 (Int.tdiv a0_1 t165)) t167 _ A62.out).mono ?_); rintro e w' ⟨rfl, ⟨nd, rfl⟩⟩; (try first | exact ⟨rfl, _, World.drewN_drewN _ _ _⟩ | exact ⟨rfl, _, Eq.trans (World.drewN_drewN _ _ _) (congrArg (World.drewN _) (Nat.add_assoc _ _ _))⟩)) | (go_at_call 75; (try simp only [i64_w, i32_w]); (with_reducible refine (impl_product.calls (wrap64 (Int.tdiv (wrap64 (Int.tdiv (ji55) t164)) t166)) (wrap64 (Int.tdiv (wrap64 (Int.tdiv a0_1 t165)) t167)) t168 true _ A65.out).mono ?_); rintro e w' ⟨rfl, ⟨nd, rfl⟩⟩; (try first | exact ⟨rfl, _, World.drewN_drewN _ _ _⟩ | exact ⟨rfl, _, Eq.trans (World.drewN_drewN _ _ _) (congrArg (World.drewN _) (Nat.add_assoc _ _ _))⟩)) | (go_at_call 75; (try simp only [i64_w, i32_w]); (with_reducible refine (impl_product.calls (wrap64 (Int.tdiv (wrap64 (Int.tdiv (ji56) t164)) t167)) (wrap64 (Int.tdiv (wrap64 (Int.tdiv a1_1 t165)) t166)) t170 true _ A66.out).mono ?_); rintro e w' ⟨rfl, ⟨nd, rfl⟩⟩; (try first | exact ⟨rfl, _, World.drewN_drewN _ _ _⟩ | exact ⟨rfl, _, Eq.trans (World.drewN_drewN _ _ _) (congrArg (World.drewN _) (Nat.add_assoc _ _ _))⟩))); try go_wp2_with (first | (go_at_call 56; (with_reducible refine (impl_gcd.calls kj3 ji55 ji56 t164 _ A57.out).mono ?_); rintro e w' ⟨rfl, ⟨nd, rfl⟩⟩; (try first | exact ⟨rfl, _, World.drewN_drewN _ _ _⟩ | exact ⟨rfl, _, Eq.trans (World.drewN_drewN _ _ _) (congrArg (World.drewN _) (Nat.add_assoc _ _ _))⟩)) | (go_at_call 56; (with_reducible refine (impl_gcd.calls kj3 a0_1 a1_1 t165 _ A58.out).mono ?_); rintro e w' ⟨rfl, ⟨nd, rfl⟩⟩; (try first | exact ⟨rfl, _, World.drewN_drewN _ _ _⟩ | exact ⟨rfl, _, Eq.trans (World.drewN_drewN _ _ _) (congrArg (World.drewN _) (Nat.add_assoc _ _ _))⟩)) | (go_at_call 56; (try simp only [i64_w, i32_w]); (with_reducible refine (impl_gcd.calls kj3 (wrap64 (Int.tdiv (ji55) t164)) (wrap64 (Int.tdiv a1_1 t165)) t166 _ A61.out).mono ?_); rintro e w' ⟨rfl, ⟨nd, rfl⟩⟩; (try first | exact ⟨rfl, _, World.drewN_drewN _ _ _⟩ | exact ⟨rfl, _, Eq.trans (World.drewN_drewN _ _ _) (congrArg (World.drewN _) (Nat.add_assoc _ _ _))⟩)) | (go_at_call 56; (try simp only [i64_w, i32_w]); (with_reducible refine (impl_gcd.calls kj3 (wrap64 (Int.tdiv (ji56) t164)) (wrap64 (Int.tdiv a0_1 t165)) t167 _ A62.out).mono ?_); rintro e w' ⟨rfl, ⟨nd, rfl⟩⟩; (try first | exact ⟨rfl, _, World.drewN_drewN _ _ _⟩ | exact ⟨rfl, _, Eq.trans (World.drewN_drewN _ _ _) (congrArg (World.drewN _) (Nat.add_assoc _ _ _))⟩)) | (go_at_call 75; (try simp only [i64_w, i32_w]); (with_reducible refine (impl_product.calls (wrap64 (Int.tdiv (wrap64 (Int.tdiv (ji55) t164)) t166)) (wrap64 (Int.tdiv (wrap64 (Int.tdiv a0_1 t165)) t167)) t168 true _ A65.out).mono ?_); rintro e w' ⟨rfl, ⟨nd, rfl⟩⟩; (try first | exact ⟨rfl, _, World.drewN_drewN _ _ _⟩ | exact ⟨rfl, _, Eq.trans (World.drewN_drewN _ _ _) (congrArg (World.drewN _) (Nat.add_assoc _ _ _))⟩)) | (go_at_call 75; (try simp only [i64_w, i32_w]); (with_reducible refine (impl_product.calls (wrap64 (Int.tdiv (wrap64 (Int.tdiv (ji56) t164)) t167)) (wrap64 (Int.tdiv (wrap64 (Int.tdiv a1_1 t165)) t166)) t170 true _ A66.out).mono ?_); rintro e w' ⟨rfl, ⟨nd, rfl⟩⟩; (try first | exact ⟨rfl, _, World.drewN_drewN _ _ _⟩ | exact ⟨rfl, _, Eq.trans (World.drewN_drewN _ _ _) (congrArg (World.drewN _) (Nat.add_assoc _ _ _))⟩))))
                          go_ret3
                          exact ⟨by first | rfl | (simp [errW_none, errW_some] <;> rfl) | (simp only [← hji55, ← hji56]; first | rfl | (simp [errW_none, errW_some] <;> rfl)) | (simp [*, errW_none, errW_some] <;> rfl), by repeat (first | (with_reducible first | exact HB.out | apply below_alloc | apply pw_below_drewN | apply below_drew1 | refine below_set ?_ GE158.out | refine below_set ?_ GE159.out | refine below_set ?_ GE160.out) | exact HB.out)⟩
                        · replace c68 := Bool.eq_false_iff.mpr c68
                          subst c68
                          have H1 : (some (0, 0, false)) = some (r1, r2, r3) := by rw [if_neg (show ¬ (false = true) by decide)] at H; exact H
                          clear H
                          have H := H1
                          clear H1
                          simp only [Option.some.injEq, Prod.mk.injEq] at H
                          obtain ⟨rfl, rfl, rfl⟩ := H
                          have hnb75 := NB160_158.out
                          have hnc75 := NB158_160.out
                          have hnb76 := NB160_159.out
                          have hnc76 := NB159_160.out
                          have hcz77_0 : wc.cell? ⟨gb160, 0, none⟩ = some (.int .i64 a2_0) := (blk_cell BK160.out 0).trans rfl
                          have hcz77_1 : wc.cell? ⟨gb160, 1, none⟩ = some (.int .i64 a2_1) := (blk_cell BK160.out 1).trans rfl
                          have hfz77_0 := blk_frozen BK160.out 0
                          have hfz77_1 := blk_frozen BK160.out 1
                          have hnb78 := NB159_158.out
                          have hnc78 := NB158_159.out
                          have hcz79_0 : wc.cell? ⟨gb159, 0, none⟩ = some (.int .i64 a1_0) := (blk_cell BK159.out 0).trans rfl
                          have hcz79_1 : wc.cell? ⟨gb159, 1, none⟩ = some (.int .i64 a1_1) := (blk_cell BK159.out 1).trans rfl
                          have hfz79_0 := blk_frozen BK159.out 0
                          have hfz79_1 := blk_frozen BK159.out 1
                          have hcz80_0 : wc.cell? ⟨gb158, 0, none⟩ = some (.int .i64 a0_0) := (blk_cell BK158.out 0).trans rfl
                          have hcz80_1 : wc.cell? ⟨gb158, 1, none⟩ = some (.int .i64 a0_1) := (blk_cell BK158.out 1).trans rfl
                          have hfz80_0 := blk_frozen BK158.out 0
                          have hfz80_1 := blk_frozen BK158.out 1
                          go_wp2_with (first | (go_at_call 56; (with_reducible refine (impl_gcd.calls kj3 ji55 ji56 t164 _ A57.out).mono ?_); rintro e w' ⟨rfl, ⟨nd, rfl⟩⟩; (try first | exact ⟨rfl, _, World.drewN_drewN _ _ _⟩ | exact ⟨rfl, _, Eq.trans (World.drewN_drewN _ _ _) (congrArg (World.drewN _) (Nat.add_assoc _ _ _))⟩)) | (go_at_call 56; (with_reducible refine (impl_gcd.calls kj3 a0_1 a1_1 t165 _ A58.out).mono ?_); rintro e w' ⟨rfl, ⟨nd, rfl⟩⟩; (try first | exact ⟨rfl, _, World.drewN_drewN _ _ _⟩ | exact ⟨rfl, _, Eq.trans (World.drewN_drewN _ _ _) (congrArg (World.drewN _) (Nat.add_assoc _ _ _))⟩)) | (go_at_call 56; (try simp only [i64_w, i32_w]); (with_reducible refine (impl_gcd.calls kj3 (wrap64 (Int.tdiv (ji55) t164)) (wrap64 (Int.tdiv a1_1 t165)) t166 _ A61.out).mono ?_); rintro e w' ⟨rfl, ⟨nd, rfl⟩⟩; (try first | exact ⟨rfl, _, World.drewN_drewN _ _ _⟩ | exact ⟨rfl, _, Eq.trans (World.drewN_drewN _ _ _) (congrArg (World.drewN _) (Nat.add_assoc _ _ _))⟩)) | (go_at_call 56; (try simp only [i64_w, i32_w]); (with_reducible refine (impl_gcd.calls kj3 (wrap64 (Int.tdiv (ji56) t164)) (wrap64 (Int.tdiv a0_1 t165)) t167 _ A62.out).mono ?_); rintro e w' ⟨rfl, ⟨nd, rfl⟩⟩; (try first | exact ⟨rfl, _, World.drewN_drewN _ _ _⟩ | exact ⟨rfl, _, Eq.trans (World.drewN_drewN _ _ _) (congrArg (World.drewN _) (Nat.add_assoc _ _ _))⟩)) | (go_at_call 75; (try simp only [i64_w, i32_w]); (with_reducible refine (impl_product.calls (wrap64 (Int.tdiv (wrap64 (Int.tdiv (ji55) t164)) t166)) (wrap64 (Int.tdiv (wrap64 (Int.tdiv a0_1 t165)) t167)) t168 true _ A65.out).mono ?_); rintro e w' ⟨rfl, ⟨nd, rfl⟩⟩; (try first | exact ⟨rfl, _, World.drewN_drewN _ _ _⟩ | exact ⟨rfl, _, Eq.trans (World.drewN_drewN _ _ _) (congrArg (World.drewN _) (Nat.add_assoc _ _ _))⟩)) | (go_at_call 75; (try simp only [i64_w, i32_w]); (with_reducible refine (impl_product.calls (wrap64 (Int.tdiv (wrap64 (Int.tdiv (ji56) t164)) t167)) (wrap64 (Int.tdiv (wrap64 (Int.tdiv a1_1 t165)) t166)) t170 false _ A66.out).mono ?_); rintro e w' ⟨rfl, ⟨nd, rfl⟩⟩; (try first | exact ⟨rfl, _, World.drewN_drewN _ _ _⟩ | exact ⟨rfl, _, Eq.trans (World.drewN_drewN _ _ _) (congrArg (World.drewN _) (Nat.add_assoc _ _ _))⟩)))
                          repeat (go_quiet (first | (go_at_call 56; (with_reducible refine (impl_gcd.calls kj3 ji55 ji56 t164 _ A57.out).mono ?_); rintro e w' ⟨rfl, ⟨nd, rfl⟩⟩; (try first | exact ⟨rfl, _, World.drewN_drewN _ _ _⟩ | exact ⟨rfl, _, Eq.trans (World.drewN_drewN _ _ _) (congrArg (World.drewN _) (Nat.add_assoc _ _ _))⟩)) | (go_at_call 56; (with_reducible refine (impl_gcd.calls kj3 a0_1 a1_1 t165 _ A58.out).mono ?_); rintro e w' ⟨rfl, ⟨nd, rfl⟩⟩; (try first | exact ⟨rfl, _, World.drewN_drewN _ _ _⟩ | exact ⟨rfl, _, Eq.trans (World.drewN_drewN _ _ _) (congrArg (World.drewN _) (Nat.add_assoc _ _ _))⟩)) | (go_at_call 56; (try simp only [i64_w, i32_w]); (with_reducible refine (impl_gcd.calls kj3 (wrap64 (Int.tdiv (ji55) t164)) (wrap64 (Int.tdiv a1_1 t165)) t166 _ A61.out).mono ?_); rintro e w' ⟨rfl, ⟨nd, rfl⟩⟩; (try first | exact ⟨rfl, _, World.drewN_drewN _ _ _⟩ | exact ⟨rfl, _, Eq.trans (World.drewN_drewN _ _ _) (congrArg (World.drewN _) (Nat.add_assoc _ _ _))⟩)) | (go_at_call 56; (try simp only [i64_w, i32_w]); (with_reducible refine (impl_gcd.calls kj3 (wrap64 (Int.tdiv (ji56) t164)) (wrap64 (Int.tdiv a0_1 t165)) t167 _ A62.out).mono ?_); rintro e w' ⟨rfl, ⟨nd, rfl⟩⟩; (try first | exact ⟨rfl, _, World.drewN_drewN _ _ _⟩ | exact ⟨rfl, _, Eq.trans (World.drewN_drewN _ _ _) (congrArg (World.drewN _) (Nat.add_assoc _ _ _))⟩)) | (go_at_call 75; (try simp only [i64_w, i32_w]); (with_reducible refine (impl_product.calls (wrap64 (Int.tdiv (wrap64 (Int.tdiv (ji55) t164)) t166)) (wrap64 (Int.tdiv (wrap64 (Int.tdiv a0_1 t165)) t167)) t168 true _ A65.out).mono ?_); rintro e w' ⟨rfl, ⟨nd, rfl⟩⟩; (try first | exact ⟨rfl, _, World.drewN_drewN _ _ _⟩ | exact ⟨rfl, _, Eq.trans (World.drewN_drewN _ _ _) (congrArg (World.drewN _) (Nat.add_assoc _ _ _))⟩)) | (go_at_call 75; (try simp only [i64_w, i32_w]); (with_reducible refine (impl_product.calls (wrap64 (Int.tdiv (wrap64 (Int.tdiv (ji56) t164)) t167)) (wrap64 (Int.tdiv (wrap64 (Int.tdiv a1_1 t165)) t166)) t170 false _ A66.out).mono ?_); rintro e w' ⟨rfl, ⟨nd, rfl⟩⟩; (try first | exact ⟨rfl, _, World.drewN_drewN _ _ _⟩ | exact ⟨rfl, _, Eq.trans (World.drewN_drewN _ _ _) (congrArg (World.drewN _) (Nat.add_assoc _ _ _))⟩))); try go_wp2_with (first | (go_at_call 56; (with_reducible refine (impl_gcd.calls kj3 ji55 ji56 t164 _ A57.out).mono ?_); rintro e w' ⟨rfl, ⟨nd, rfl⟩⟩; (try first | exact ⟨rfl, _, World.drewN_drewN _ _ _⟩ | exact ⟨rfl, _, Eq.trans (World.drewN_drewN _ _ _) (congrArg (World.drewN _) (Nat.add_assoc _ _ _))⟩)) | (go_at_call 56; (with_reducible refine (impl_gcd.calls kj3 a0_1 a1_1 t165 _ A58.out).mono ?_); rintro e w' ⟨rfl, ⟨nd, rfl⟩⟩; (try first | exact ⟨rfl, _, World.drewN_drewN _ _ _⟩ | exact ⟨rfl, _, Eq.trans (World.drewN_drewN _ _ _) (congrArg (World.drewN _) (Nat.add_assoc _ _ _))⟩)) | (go_at_call 56; (try simp only [i64_w, i32_w]); (with_reducible refine (impl_gcd.calls kj3 (wrap64 (Int.tdiv (ji55) t164)) (wrap64 (Int.tdiv a1_1 t165)) t166 _ A61.out).mono ?_); rintro e w' ⟨rfl, ⟨nd, rfl⟩⟩; (try first | exact ⟨rfl, _, World.drewN_drewN _ _ _⟩ | exact ⟨rfl, _, Eq.trans (World.drewN_drewN _ _ _) (congrArg (World.drewN _) (Nat.add_assoc _ _ _))⟩)) | (go_at_call 56; (try simp only [i64_w, i32_w]); (with_reducible refine (impl_gcd.calls kj3 (wrap64 (Int.tdiv (ji56) t164)) (wrap64 (Int.tdiv a0_1 t165)) t167 _ A62.out).mono ?_); rintro e w' ⟨rfl, ⟨nd, rfl⟩⟩; (try first | exact ⟨rfl, _, World.drewN_drewN _ _ _⟩ | exact ⟨rfl, _, Eq.trans (World.drewN_drewN _ _ _) (congrArg (World.drewN _) (Nat.add_assoc _ _ _))⟩)) | (go_at_call 75; (try simp only [i64_w, i32_w]); (with_reducible refine (impl_product.calls (wrap64 (Int.tdiv (wrap64 (Int.tdiv (ji55) t164)) t166)) (wrap64 (Int.tdiv (wrap64 (Int.tdiv a0_1 t165)) t167)) t168 true _ A65.out).mono ?_); rintro e w' ⟨rfl, ⟨nd, rfl⟩⟩; (try first | exact ⟨rfl, _, World.drewN_drewN _ _ _⟩ | exact ⟨rfl, _, Eq.trans (World.drewN_drewN _ _ _) (congrArg (World.drewN _) (Nat.add_assoc _ _ _))⟩)) | (go_at_call 75; (try simp only [i64_w, i32_w]); (with_reducible refine (impl_product.calls (wrap64 (Int.tdiv (wrap64 (Int.tdiv (ji56) t164)) t167)) (wrap64 (Int.tdiv (wrap64 (Int.tdiv a1_1 t165)) t166)) t170 false _ A66.out).mono ?_); rintro e w' ⟨rfl, ⟨nd, rfl⟩⟩; (try first | exact ⟨rfl, _, World.drewN_drewN _ _ _⟩ | exact ⟨rfl, _, Eq.trans (World.drewN_drewN _ _ _) (congrArg (World.drewN _) (Nat.add_assoc _ _ _))⟩))))
                          go_ret3
                          exact ⟨by first | rfl | (simp [errW_none, errW_some] <;> rfl) | (simp only [← hji55, ← hji56]; first | rfl | (simp [errW_none, errW_some] <;> rfl)) | (simp [*, errW_none, errW_some] <;> rfl), by repeat (first | (with_reducible first | exact HB.out | apply below_alloc | apply pw_below_drewN | apply below_drew1 | refine below_set ?_ GE158.out | refine below_set ?_ GE159.out | refine below_set ?_ GE160.out) | exact HB.out)⟩
                      · replace c67 := Bool.eq_false_iff.mpr c67
                        subst c67
                        have H1 : (some (0, 0, false)) = some (r1, r2, r3) := by rw [if_neg (show ¬ (false = true) by decide)] at H; exact H
                        clear H
                        have H := H1
                        clear H1
                        simp only [Option.some.injEq, Prod.mk.injEq] at H
                        obtain ⟨rfl, rfl, rfl⟩ := H
                        have hnb81 := NB160_158.out
                        have hnc81 := NB158_160.out
                        have hnb82 := NB160_159.out
                        have hnc82 := NB159_160.out
                        have hcz83_0 : wc.cell? ⟨gb160, 0, none⟩ = some (.int .i64 a2_0) := (blk_cell BK160.out 0).trans rfl
                        have hcz83_1 : wc.cell? ⟨gb160, 1, none⟩ = some (.int .i64 a2_1) := (blk_cell BK160.out 1).trans rfl
                        have hfz83_0 := blk_frozen BK160.out 0
                        have hfz83_1 := blk_frozen BK160.out 1
                        have hnb84 := NB159_158.out
                        have hnc84 := NB158_159.out
                        have hcz85_0 : wc.cell? ⟨gb159, 0, none⟩ = some (.int .i64 a1_0) := (blk_cell BK159.out 0).trans rfl
                        have hcz85_1 : wc.cell? ⟨gb159, 1, none⟩ = some (.int .i64 a1_1) := (blk_cell BK159.out 1).trans rfl
                        have hfz85_0 := blk_frozen BK159.out 0
                        have hfz85_1 := blk_frozen BK159.out 1
                        have hcz86_0 : wc.cell? ⟨gb158, 0, none⟩ = some (.int .i64 a0_0) := (blk_cell BK158.out 0).trans rfl
                        have hcz86_1 : wc.cell? ⟨gb158, 1, none⟩ = some (.int .i64 a0_1) := (blk_cell BK158.out 1).trans rfl
                        have hfz86_0 := blk_frozen BK158.out 0
                        have hfz86_1 := blk_frozen BK158.out 1
                        go_wp2_with (first | (go_at_call 56; (with_reducible refine (impl_gcd.calls kj3 ji55 ji56 t164 _ A57.out).mono ?_); rintro e w' ⟨rfl, ⟨nd, rfl⟩⟩; (try first | exact ⟨rfl, _, World.drewN_drewN _ _ _⟩ | exact ⟨rfl, _, Eq.trans (World.drewN_drewN _ _ _) (congrArg (World.drewN _) (Nat.add_assoc _ _ _))⟩)) | (go_at_call 56; (with_reducible refine (impl_gcd.calls kj3 a0_1 a1_1 t165 _ A58.out).mono ?_); rintro e w' ⟨rfl, ⟨nd, rfl⟩⟩; (try first | exact ⟨rfl, _, World.drewN_drewN _ _ _⟩ | exact ⟨rfl, _, Eq.trans (World.drewN_drewN _ _ _) (congrArg (World.drewN _) (Nat.add_assoc _ _ _))⟩)) | (go_at_call 56; (try simp only [i64_w, i32_w]); (with_reducible refine (impl_gcd.calls kj3 (wrap64 (Int.tdiv (ji55) t164)) (wrap64 (Int.tdiv a1_1 t165)) t166 _ A61.out).mono ?_); rintro e w' ⟨rfl, ⟨nd, rfl⟩⟩; (try first | exact ⟨rfl, _, World.drewN_drewN _ _ _⟩ | exact ⟨rfl, _, Eq.trans (World.drewN_drewN _ _ _) (congrArg (World.drewN _) (Nat.add_assoc _ _ _))⟩)) | (go_at_call 56; (try simp only [i64_w, i32_w]); (with_reducible refine (impl_gcd.calls kj3 (wrap64 (Int.tdiv (ji56) t164)) (wrap64 (Int.tdiv a0_1 t165)) t167 _ A62.out).mono ?_); rintro e w' ⟨rfl, ⟨nd, rfl⟩⟩; (try first | exact ⟨rfl, _, World.drewN_drewN _ _ _⟩ | exact ⟨rfl, _, Eq.trans (World.drewN_drewN _ _ _) (congrArg (World.drewN _) (Nat.add_assoc _ _ _))⟩)) | (go_at_call 75; (try simp only [i64_w, i32_w]); (with_reducible refine (impl_product.calls (wrap64 (Int.tdiv (wrap64 (Int.tdiv (ji55) t164)) t166)) (wrap64 (Int.tdiv (wrap64 (Int.tdiv a0_1 t165)) t167)) t168 false _ A65.out).mono ?_); rintro e w' ⟨rfl, ⟨nd, rfl⟩⟩; (try first | exact ⟨rfl, _, World.drewN_drewN _ _ _⟩ | exact ⟨rfl, _, Eq.trans (World.drewN_drewN _ _ _) (congrArg (World.drewN _) (Nat.add_assoc _ _ _))⟩)) | (go_at_call 75; (try simp only [i64_w, i32_w]); (with_reducible refine (impl_product.calls (wrap64 (Int.tdiv (wrap64 (Int.tdiv (ji56) t164)) t167)) (wrap64 (Int.tdiv (wrap64 (Int.tdiv a1_1 t165)) t166)) t170 t171 _ A66.out).mono ?_); rintro e w' ⟨rfl, ⟨nd, rfl⟩⟩; (try first | exact ⟨rfl, _, World.drewN_drewN _ _ _⟩ | exact ⟨rfl, _, Eq.trans (World.drewN_drewN _ _ _) (congrArg (World.drewN _) (Nat.add_assoc _ _ _))⟩)))
                        repeat (go_quiet (first | (go_at_call 56; (with_reducible refine (impl_gcd.calls kj3 ji55 ji56 t164 _ A57.out).mono ?_); rintro e w' ⟨rfl, ⟨nd, rfl⟩⟩; (try first | exact ⟨rfl, _, World.drewN_drewN _ _ _⟩ | exact ⟨rfl, _, Eq.trans (World.drewN_drewN _ _ _) (congrArg (World.drewN _) (Nat.add_assoc _ _ _))⟩)) | (go_at_call 56; (with_reducible refine (impl_gcd.calls kj3 a0_1 a1_1 t165 _ A58.out).mono ?_); rintro e w' ⟨rfl, ⟨nd, rfl⟩⟩; (try first | exact ⟨rfl, _, World.drewN_drewN _ _ _⟩ | exact ⟨rfl, _, Eq.trans (World.drewN_drewN _ _ _) (congrArg (World.drewN _) (Nat.add_assoc _ _ _))⟩)) | (go_at_call 56; (try simp only [i64_w, i32_w]); (with_reducible refine (impl_gcd.calls kj3 (wrap64 (Int.tdiv (ji55) t164)) (wrap64 (Int.tdiv a1_1 t165)) t166 _ A61.out).mono ?_); rintro e w' ⟨rfl, ⟨nd, rfl⟩⟩; (try first | exact ⟨rfl, _, World.drewN_drewN _ _ _⟩ | exact ⟨rfl, _, Eq.trans (World.drewN_drewN _ _ _) (congrArg (World.drewN _) (Nat.add_assoc _ _ _))⟩)) | (go_at_call 56; (try simp only [i64_w, i32_w]); (with_reducible refine (impl_gcd.calls kj3 (wrap64 (Int.tdiv (ji56) t164)) (wrap64 (Int.tdiv a0_1 t165)) t167 _ A62.out).mono ?_); rintro e w' ⟨rfl, ⟨nd, rfl⟩⟩; (try first | exact ⟨rfl, _, World.drewN_drewN _ _ _⟩ | exact ⟨rfl, _, Eq.trans (World.drewN_drewN _ _ _) (congrArg (World.drewN _) (Nat.add_assoc _ _ _))⟩)) | (go_at_call 75; (try simp only [i64_w, i32_w]); (with_reducible refine (impl_product.calls (wrap64 (Int.tdiv (wrap64 (Int.tdiv (ji55) t164)) t166)) (wrap64 (Int.tdiv (wrap64 (Int.tdiv a0_1 t165)) t167)) t168 false _ A65.out).mono ?_); rintro e w' ⟨rfl, ⟨nd, rfl⟩⟩; (try first | exact ⟨rfl, _, World.drewN_drewN _ _ _⟩ | exact ⟨rfl, _, Eq.trans (World.drewN_drewN _ _ _) (congrArg (World.drewN _) (Nat.add_assoc _ _ _))⟩)) | (go_at_call 75; (try simp only [i64_w, i32_w]); (with_reducible refine (impl_product.calls (wrap64 (Int.tdiv (wrap64 (Int.tdiv (ji56) t164)) t167)) (wrap64 (Int.tdiv (wrap64 (Int.tdiv a1_1 t165)) t166)) t170 t171 _ A66.out).mono ?_); rintro e w' ⟨rfl, ⟨nd, rfl⟩⟩; (try first | exact ⟨rfl, _, World.drewN_drewN _ _ _⟩ | exact ⟨rfl, _, Eq.trans (World.drewN_drewN _ _ _) (congrArg (World.drewN _) (Nat.add_assoc _ _ _))⟩))); try go_wp2_with (first | (go_at_call 56; (with_reducible refine (impl_gcd.calls kj3 ji55 ji56 t164 _ A57.out).mono ?_); rintro e w' ⟨rfl, ⟨nd, rfl⟩⟩; (try first | exact ⟨rfl, _, World.drewN_drewN _ _ _⟩ | exact ⟨rfl, _, Eq.trans (World.drewN_drewN _ _ _) (congrArg (World.drewN _) (Nat.add_assoc _ _ _))⟩)) | (go_at_call 56; (with_reducible refine (impl_gcd.calls kj3 a0_1 a1_1 t165 _ A58.out).mono ?_); rintro e w' ⟨rfl, ⟨nd, rfl⟩⟩; (try first | exact ⟨rfl, _, World.drewN_drewN _ _ _⟩ | exact ⟨rfl, _, Eq.trans (World.drewN_drewN _ _ _) (congrArg (World.drewN _) (Nat.add_assoc _ _ _))⟩)) | (go_at_call 56; (try simp only [i64_w, i32_w]); (with_reducible refine (impl_gcd.calls kj3 (wrap64 (Int.tdiv (ji55) t164)) (wrap64 (Int.tdiv a1_1 t165)) t166 _ A61.out).mono ?_); rintro e w' ⟨rfl, ⟨nd, rfl⟩⟩; (try first | exact ⟨rfl, _, World.drewN_drewN _ _ _⟩ | exact ⟨rfl, _, Eq.trans (World.drewN_drewN _ _ _) (congrArg (World.drewN _) (Nat.add_assoc _ _ _))⟩)) | (go_at_call 56; (try simp only [i64_w, i32_w]); (with_reducible refine (impl_gcd.calls kj3 (wrap64 (Int.tdiv (ji56) t164)) (wrap64 (Int.tdiv a0_1 t165)) t167 _ A62.out).mono ?_); rintro e w' ⟨rfl, ⟨nd, rfl⟩⟩; (try first | exact ⟨rfl, _, World.drewN_drewN _ _ _⟩ | exact ⟨rfl, _, Eq.trans (World.drewN_drewN _ _ _) (congrArg (World.drewN _) (Nat.add_assoc _ _ _))⟩)) | (go_at_call 75; (try simp only [i64_w, i32_w]); (with_reducible refine (impl_product.calls (wrap64 (Int.tdiv (wrap64 (Int.tdiv (ji55) t164)) t166)) (wrap64 (Int.tdiv (wrap64 (Int.tdiv a0_1 t165)) t167)) t168 false _ A65.out).mono ?_); rintro e w' ⟨rfl, ⟨nd, rfl⟩⟩; (try first | exact ⟨rfl, _, World.drewN_drewN _ _ _⟩ | exact ⟨rfl, _, Eq.trans (World.drewN_drewN _ _ _) (congrArg (World.drewN _) (Nat.add_assoc _ _ _))⟩)) | (go_at_call 75; (try simp only [i64_w, i32_w]); (with_reducible refine (impl_product.calls (wrap64 (Int.tdiv (wrap64 (Int.tdiv (ji56) t164)) t167)) (wrap64 (Int.tdiv (wrap64 (Int.tdiv a1_1 t165)) t166)) t170 t171 _ A66.out).mono ?_); rintro e w' ⟨rfl, ⟨nd, rfl⟩⟩; (try first | exact ⟨rfl, _, World.drewN_drewN _ _ _⟩ | exact ⟨rfl, _, Eq.trans (World.drewN_drewN _ _ _) (congrArg (World.drewN _) (Nat.add_assoc _ _ _))⟩))))
                        go_ret3
                        exact ⟨by first | rfl | (simp [errW_none, errW_some] <;> rfl) | (simp only [← hji55, ← hji56]; first | rfl | (simp [errW_none, errW_some] <;> rfl)) | (simp [*, errW_none, errW_some] <;> rfl), by repeat (first | (with_reducible first | exact HB.out | apply below_alloc | apply pw_below_drewN | apply below_drew1 | refine below_set ?_ GE158.out | refine below_set ?_ GE159.out | refine below_set ?_ GE160.out) | exact HB.out)⟩

end Go.Proofs.Ytpgjoagbmljmnaa.PFnExactBlendAmounts

/- Lean functions of the Go functions that the law FnExactWaterForLevel reaches, and the proofs that the calls come to what they say (made by program). -/
import Derived.Test.YtedkbaadbnpkoaaAb
import Derived.Test.YtedkbaadbnpkoaaPFnExactWaterForLevelx0
import Derived.Test.YtedkbaadbnpkoaaPFnExactWaterForLevelx1
namespace Go.Proofs.Ytedkbaadbnpkoaa.PFnExactWaterForLevel
open Go.RowKit Go.Proofs.YtedkbaadbnpkoaaW.PrintWords Go.Proofs.YtedkbaadbnpkoaaW.PrintLast Go.Proofs.YtedkbaadbnpkoaaW.PrintMore Go.Proofs.Ytedkbaadbnpkoaa.Ab
attribute [local go_sem] max2_int min2_int max_two min_two max_three min_three max_four min_four   -- for this text's walks alone
set_option linter.unusedVariables false
set_option linter.unusedSimpArgs false

/-! ### spec_veCommon: function 100 -/
def spec_veCommon.l0 : Nat → Int → Int → Option (Int)
  | 0, _, _ => none
  | k + 1, x0, x1 => if x1 > 0 then (if x1 = 0 then (none) else (spec_veCommon.l0 k x1 (Int.tmod x0 x1))) else (some x0)
def spec_veCommon.f (k : Nat) (a0 : Int) (a1 : Int) : Option (Int) := spec_veCommon.l0 k a0 a1
theorem spec_veCommon.mono_l : ∀ k, (∀ y0 y1, LeO (spec_veCommon.l0 k y0 y1) (spec_veCommon.l0 (k + 1) y0 y1))
 | 0 => fun _ _ r h => by simp [spec_veCommon.l0] at h
 | k + 1 => by
  have ih0 := spec_veCommon.mono_l k
  ·intro y0 y1
   unfold spec_veCommon.l0
   repeat' first
   | (with_reducible exact ih0 _ _)
   | (with_reducible exact LeO.refl _)
   | (with_reducible exact LeO.none _)
   | (with_reducible refine LeO.ite ?_ ?_)
   | (with_reducible refine LeO.bind ?_ (fun _ => ?_))
   | exact ih0 _ _
   | exact LeO.none _
   | refine LeO.ite ?_ ?_
   | refine LeO.bind ?_ (fun _ => ?_)
theorem spec_veCommon.mono : ∀ a0 a1 k, LeO (spec_veCommon.f k a0 a1) (spec_veCommon.f (k + 1) a0 a1) := by
 intro a0 a1 k
 have ih0 := spec_veCommon.mono_l k
 unfold spec_veCommon.f
 repeat' first
   | (with_reducible exact ih0 _ _)
   | (with_reducible exact LeO.refl _)
   | (with_reducible exact LeO.none _)
   | (with_reducible refine LeO.ite ?_ ?_)
   | (with_reducible refine LeO.bind ?_ (fun _ => ?_))
   | exact ih0 _ _
   | exact LeO.none _
   | refine LeO.ite ?_ ?_
   | refine LeO.bind ?_ (fun _ => ?_)
set_option maxHeartbeats 8000000 in
set_option maxRecDepth 100000 in
theorem spec_veCommon.calls (k : Nat) (a0 : Int) (a1 : Int) (r : Int) (w : World) (h : spec_veCommon.f k a0 a1 = some r) :
  Calls Try.prog 100 #[.int .i64 a0, .int .i64 a1] w fun e w' => e = .returned (.int .i64 r) ∧ Drawn0 w w' := by
 have H : (spec_veCommon.l0 k a0 a1) = some r := h
 clear h
 have H' := Aside0.mk H
 clear H
 go_enter Try.func100, Try.ntmps100
 go_wp2
 repeat (go_quiet (fail); try go_wp2)
 go_loopg [0, 1] k (fun kq v0 v1 w' => ∃ (x0_1 : Int) (x1_1 : Int), v0 = .int .i64 x0_1 ∧ v1 = .int .i64 x1_1 ∧ Aside0 (spec_veCommon.l0 kq x0_1 x1_1 = some r) ∧ Aside0 (kq ≤ k) ∧ Drawn0 w w')
 case atStart => exact ⟨(a0), (a1), (by first | rfl | (simp; done) | (simp [*]; done)), (by first | rfl | (simp; done) | (simp [*]; done)), H', ⟨Nat.le_refl _⟩, by repeat (first | exact Drawn0.refl _ | apply Drawn0.step)⟩
 case round =>
  clear H'
  try clear c1
  try clear p2
  obtain ⟨x0_1, x1_1, rfl, rfl, HA, HK1, ⟨m1, rfl⟩⟩ := hrel
  cases gk with
  | zero => exact absurd HA.out (by simp [spec_veCommon.l0])
  | succ k1 =>
   have H := HA.out
   clear HA
   simp only [spec_veCommon.l0] at H
   by_cases c3 : x1_1 > 0
   ·rw [if_pos c3] at H
    have c3b0 : decide (0 < x1_1) = true := decide_eq_true c3
    clear c3
    by_cases c4 : x1_1 = 0
    ·rw [if_pos c4] at H
     exact absurd H (by simp)
    ·rw [if_neg c4] at H
     have c4b0 : (x1_1 == 0) = false := beq_eq_false_iff_ne.mpr c4
     have c4b1 : (x1_1 != 0) = true := bne_iff_ne.mpr c4
     have H' := Aside0.mk H
     clear H
     go_wp2
     repeat (go_quiet (fail); try go_wp2)
     go_roundg k1
     case measure => have := HK1.out; omega
     case rel => exact ⟨(x1_1), (Int.tmod x0_1 x1_1), (by first | rfl | (simp; done) | (simp [*]; done)), (by first | rfl | (simp; done) | (simp [*]; done)), H', ⟨by have := HK1.out; omega⟩, by repeat (first | exact Drawn0.refl _ | apply Drawn0.step)⟩
   ·rw [if_neg c3] at H
    have c3b0 : decide (0 < x1_1) = false := decide_eq_false c3
    clear c3
    obtain rfl := Option.some.inj H
    go_wp2
    repeat (go_quiet (fail); try go_wp2)
    go_ret
    exact ⟨by first | rfl | (simp; done) | (simp [*]; done), by repeat (first | exact Drawn0.refl _ | apply Drawn0.step)⟩

/-! ### spec_l1Most: function 99 -/
def spec_l1Most.f (a0 : Int) (a1 : Int) : Option (Int) := if a0 > a1 then (some a0) else (some a1)
set_option maxHeartbeats 8000000 in
set_option maxRecDepth 100000 in
theorem spec_l1Most.calls (a0 : Int) (a1 : Int) (r : Int) (w : World) (h : spec_l1Most.f a0 a1 = some r) :
  Calls Try.prog 99 #[.int .i64 a0, .int .i64 a1] w fun e w' => e = .returned (.int .i64 r) ∧ Drawn0 w w' := by
 have H : (if a0 > a1 then (some a0) else (some a1)) = some r := h
 clear h
 by_cases c3 : a0 > a1
 ·rw [if_pos c3] at H
  have c3b0 : decide (a1 < a0) = true := decide_eq_true c3
  clear c3
  obtain rfl := Option.some.inj H
  go_enter Try.func99, Try.ntmps99
  go_wp2
  go_ret
  exact ⟨by first | rfl | (simp; done) | (simp [*]; done), by repeat (first | exact Drawn0.refl _ | apply Drawn0.step)⟩
 ·rw [if_neg c3] at H
  have c3b0 : decide (a1 < a0) = false := decide_eq_false c3
  clear c3
  obtain rfl := Option.some.inj H
  go_enter Try.func99, Try.ntmps99
  go_wp2
  go_ret
  exact ⟨by first | rfl | (simp; done) | (simp [*]; done), by repeat (first | exact Drawn0.refl _ | apply Drawn0.step)⟩

/-! ### spec_l1Abs: function 101 -/
def spec_l1Abs.f (a0 : Int) : Option (Int) := (spec_l1Most.f a0 (wrap64 (-a0))).bind fun t125 => (some t125)
set_option maxHeartbeats 8000000 in
set_option maxRecDepth 100000 in
theorem spec_l1Abs.calls (a0 : Int) (r : Int) (w : World) (h : spec_l1Abs.f a0 = some r) :
  Calls Try.prog 101 #[.int .i64 a0] w fun e w' => e = .returned (.int .i64 r) ∧ Drawn0 w w' := by
 have H : ((spec_l1Most.f a0 (wrap64 (-a0))).bind fun t125 => (some t125)) = some r := h
 clear h
 replace H := Option.bind_eq_some_iff.mp H
 obtain ⟨t125, A20, H⟩ := H
 replace H : (some t125) = some r := H
 have A2 := Aside0.mk A20
 clear A20
 obtain rfl := Option.some.inj H
 go_enter Try.func101, Try.ntmps101
 go_wp2_with (first | ((with_reducible refine gate_callee (f := 99) rfl ?_); refine goesL_ (some 6) rfl rfl Try.func99 (by kernel_rfl) rfl #[.int .i64 a0, .int .i64 (wrap64 (-a0))] rfl (by (try simp only [List.map_toArray, List.map_cons, List.map_nil]); first | done | rfl | (simp only [List.length_drop, List.length_take]; rfl)) ?_; (with_reducible refine (spec_l1Most.calls a0 (wrap64 (-a0)) t125 _ A2.out).mono ?_); rintro e w' ⟨rfl, ⟨nd, rfl⟩⟩; refine ⟨_, rfl, ?_⟩))
 go_ret
 exact ⟨by first | rfl | (simp; done) | (simp [*]; done), by repeat (first | exact Drawn0.refl _ | apply Drawn0.step)⟩

/-! ### spec_leGood: function 97 -/
def spec_leGood.f (k : Nat) (a0_0 : Int) (a0_1 : Int) : Option (Bool) := (spec_l1In.f a0_1 1 1000000).bind fun t127 => (if t127 = true then ((spec_l1In.f a0_0 (-1000000000000) 1000000000000).bind fun t128 => (if t128 = true then ((spec_l1Abs.f a0_0).bind fun t129 => ((spec_veCommon.f k t129 a0_1).bind fun t130 => (some (t130 == 1)))) else (some false))) else (some false))
theorem spec_leGood.mono : ∀ a0 a1 k, LeO (spec_leGood.f k a0 a1) (spec_leGood.f (k + 1) a0 a1) := by
 intro a0 a1 k
 unfold spec_leGood.f
 repeat' first
   | (with_reducible exact spec_veCommon.mono _ _ _)
   | (with_reducible exact LeO.refl _)
   | (with_reducible exact LeO.none _)
   | (with_reducible refine LeO.ite ?_ ?_)
   | (with_reducible refine LeO.bind ?_ (fun _ => ?_))
   | exact spec_veCommon.mono _ _ _
   | exact LeO.none _
   | refine LeO.ite ?_ ?_
   | refine LeO.bind ?_ (fun _ => ?_)
set_option maxHeartbeats 8000000 in
set_option maxRecDepth 100000 in
theorem spec_leGood.calls (k : Nat) (a0_0 : Int) (a0_1 : Int) (r : Bool) (w : World) (h : spec_leGood.f k a0_0 a0_1 = some r) :
  Calls Try.prog 97 #[.agg #[.int .i64 a0_0, .int .i64 a0_1]] w fun e w' => e = .returned (.bool r) ∧ Below w.heap.size w w' := by
 have hu44 := Try.underlying44
 have HB := Aside0.mk (Below.refl w.heap.size w)
 have H : ((spec_l1In.f a0_1 1 1000000).bind fun t127 => (if t127 = true then ((spec_l1In.f a0_0 (-1000000000000) 1000000000000).bind fun t128 => (if t128 = true then ((spec_l1Abs.f a0_0).bind fun t129 => ((spec_veCommon.f k t129 a0_1).bind fun t130 => (some (t130 == 1)))) else (some false))) else (some false))) = some r := h
 clear h
 replace H := Option.bind_eq_some_iff.mp H
 obtain ⟨t127, A20, H⟩ := H
 replace H : (if t127 = true then ((spec_l1In.f a0_0 (-1000000000000) 1000000000000).bind fun t128 => (if t128 = true then ((spec_l1Abs.f a0_0).bind fun t129 => ((spec_veCommon.f k t129 a0_1).bind fun t130 => (some (t130 == 1)))) else (some false))) else (some false)) = some r := H
 have A2 := Aside0.mk A20
 clear A20
 by_cases c3 : t127 = true
 ·subst c3
  have H1 : ((spec_l1In.f a0_0 (-1000000000000) 1000000000000).bind fun t128 => (if t128 = true then ((spec_l1Abs.f a0_0).bind fun t129 => ((spec_veCommon.f k t129 a0_1).bind fun t130 => (some (t130 == 1)))) else (some false))) = some r := by rw [if_pos rfl] at H; exact H
  clear H
  have H := H1
  clear H1
  replace H := Option.bind_eq_some_iff.mp H
  obtain ⟨t128, A40, H⟩ := H
  replace H : (if t128 = true then ((spec_l1Abs.f a0_0).bind fun t129 => ((spec_veCommon.f k t129 a0_1).bind fun t130 => (some (t130 == 1)))) else (some false)) = some r := H
  have A4 := Aside0.mk A40
  clear A40
  by_cases c5 : t128 = true
  ·subst c5
   have H1 : ((spec_l1Abs.f a0_0).bind fun t129 => ((spec_veCommon.f k t129 a0_1).bind fun t130 => (some (t130 == 1)))) = some r := by rw [if_pos rfl] at H; exact H
   clear H
   have H := H1
   clear H1
   replace H := Option.bind_eq_some_iff.mp H
   obtain ⟨t129, A60, H⟩ := H
   replace H : ((spec_veCommon.f k t129 a0_1).bind fun t130 => (some (t130 == 1))) = some r := H
   have A6 := Aside0.mk A60
   clear A60
   replace H := Option.bind_eq_some_iff.mp H
   obtain ⟨t130, A70, H⟩ := H
   replace H : (some (t130 == 1)) = some r := H
   have A7 := Aside0.mk A70
   clear A70
   obtain rfl := Option.some.inj H
   go_enter Try.func97, Try.ntmps97
   go_wp2_with (first | ((with_reducible refine gate_dst (N := 1) rfl ?_); refine box_event ?hg (N := 1) ?hd (cs := #[.int .i64 a0_0, .int .i64 a0_1]) (t := 44) ?hr ?_; (case hd => rfl); (case hg => rfl); (case hr => first | (go_simp; done) | (go_simp; rfl)); intro gb126 hg w8 hbox hb; have BK126 := Aside0.mk (hbox); have GW126 := xg HB hg; have GE126 := xg HB hg; replace HB := xp HB hb; clear hb hbox hg; have hcz9_0 : w8.cell? ⟨gb126, 0, none⟩ = some (.int .i64 a0_0) := (blk_cell BK126.out 0).trans rfl; have hcz9_1 : w8.cell? ⟨gb126, 1, none⟩ = some (.int .i64 a0_1) := (blk_cell BK126.out 1).trans rfl; have hfz9_0 := blk_frozen BK126.out 0; have hfz9_1 := blk_frozen BK126.out 1) | (go_at_call 82; (with_reducible refine (spec_l1In.calls a0_1 1 1000000 true _ A2.out).mono ?_); rintro e w' ⟨rfl, ⟨nd, rfl⟩⟩; (try first | exact ⟨rfl, _, World.drewN_drewN _ _ _⟩ | exact ⟨rfl, _, Eq.trans (World.drewN_drewN _ _ _) (congrArg (World.drewN _) (Nat.add_assoc _ _ _))⟩)) | (go_at_call 82; (with_reducible refine (spec_l1In.calls a0_0 (-1000000000000) 1000000000000 true _ A4.out).mono ?_); rintro e w' ⟨rfl, ⟨nd, rfl⟩⟩; (try first | exact ⟨rfl, _, World.drewN_drewN _ _ _⟩ | exact ⟨rfl, _, Eq.trans (World.drewN_drewN _ _ _) (congrArg (World.drewN _) (Nat.add_assoc _ _ _))⟩)) | (go_at_call 101; (with_reducible refine (spec_l1Abs.calls a0_0 t129 _ A6.out).mono ?_); rintro e w' ⟨rfl, ⟨nd, rfl⟩⟩; (try first | exact ⟨rfl, _, World.drewN_drewN _ _ _⟩ | exact ⟨rfl, _, Eq.trans (World.drewN_drewN _ _ _) (congrArg (World.drewN _) (Nat.add_assoc _ _ _))⟩)) | (go_at_call 100; (with_reducible refine (spec_veCommon.calls k t129 a0_1 t130 _ A7.out).mono ?_); rintro e w' ⟨rfl, ⟨nd, rfl⟩⟩; (try first | exact ⟨rfl, _, World.drewN_drewN _ _ _⟩ | exact ⟨rfl, _, Eq.trans (World.drewN_drewN _ _ _) (congrArg (World.drewN _) (Nat.add_assoc _ _ _))⟩)))
   repeat (go_quiet (first | ((with_reducible refine gate_dst (N := 1) rfl ?_); refine box_event ?hg (N := 1) ?hd (cs := #[.int .i64 a0_0, .int .i64 a0_1]) (t := 44) ?hr ?_; (case hd => rfl); (case hg => rfl); (case hr => first | (go_simp; done) | (go_simp; rfl)); intro gb126 hg w8 hbox hb; have BK126 := Aside0.mk (hbox); have GW126 := xg HB hg; have GE126 := xg HB hg; replace HB := xp HB hb; clear hb hbox hg; have hcz9_0 : w8.cell? ⟨gb126, 0, none⟩ = some (.int .i64 a0_0) := (blk_cell BK126.out 0).trans rfl; have hcz9_1 : w8.cell? ⟨gb126, 1, none⟩ = some (.int .i64 a0_1) := (blk_cell BK126.out 1).trans rfl; have hfz9_0 := blk_frozen BK126.out 0; have hfz9_1 := blk_frozen BK126.out 1) | (go_at_call 82; (with_reducible refine (spec_l1In.calls a0_1 1 1000000 true _ A2.out).mono ?_); rintro e w' ⟨rfl, ⟨nd, rfl⟩⟩; (try first | exact ⟨rfl, _, World.drewN_drewN _ _ _⟩ | exact ⟨rfl, _, Eq.trans (World.drewN_drewN _ _ _) (congrArg (World.drewN _) (Nat.add_assoc _ _ _))⟩)) | (go_at_call 82; (with_reducible refine (spec_l1In.calls a0_0 (-1000000000000) 1000000000000 true _ A4.out).mono ?_); rintro e w' ⟨rfl, ⟨nd, rfl⟩⟩; (try first | exact ⟨rfl, _, World.drewN_drewN _ _ _⟩ | exact ⟨rfl, _, Eq.trans (World.drewN_drewN _ _ _) (congrArg (World.drewN _) (Nat.add_assoc _ _ _))⟩)) | (go_at_call 101; (with_reducible refine (spec_l1Abs.calls a0_0 t129 _ A6.out).mono ?_); rintro e w' ⟨rfl, ⟨nd, rfl⟩⟩; (try first | exact ⟨rfl, _, World.drewN_drewN _ _ _⟩ | exact ⟨rfl, _, Eq.trans (World.drewN_drewN _ _ _) (congrArg (World.drewN _) (Nat.add_assoc _ _ _))⟩)) | (go_at_call 100; (with_reducible refine (spec_veCommon.calls k t129 a0_1 t130 _ A7.out).mono ?_); rintro e w' ⟨rfl, ⟨nd, rfl⟩⟩; (try first | exact ⟨rfl, _, World.drewN_drewN _ _ _⟩ | exact ⟨rfl, _, Eq.trans (World.drewN_drewN _ _ _) (congrArg (World.drewN _) (Nat.add_assoc _ _ _))⟩))); try go_wp2_with (first | ((with_reducible refine gate_dst (N := 1) rfl ?_); refine box_event ?hg (N := 1) ?hd (cs := #[.int .i64 a0_0, .int .i64 a0_1]) (t := 44) ?hr ?_; (case hd => rfl); (case hg => rfl); (case hr => first | (go_simp; done) | (go_simp; rfl)); intro gb126 hg w8 hbox hb; have BK126 := Aside0.mk (hbox); have GW126 := xg HB hg; have GE126 := xg HB hg; replace HB := xp HB hb; clear hb hbox hg; have hcz9_0 : w8.cell? ⟨gb126, 0, none⟩ = some (.int .i64 a0_0) := (blk_cell BK126.out 0).trans rfl; have hcz9_1 : w8.cell? ⟨gb126, 1, none⟩ = some (.int .i64 a0_1) := (blk_cell BK126.out 1).trans rfl; have hfz9_0 := blk_frozen BK126.out 0; have hfz9_1 := blk_frozen BK126.out 1) | (go_at_call 82; (with_reducible refine (spec_l1In.calls a0_1 1 1000000 true _ A2.out).mono ?_); rintro e w' ⟨rfl, ⟨nd, rfl⟩⟩; (try first | exact ⟨rfl, _, World.drewN_drewN _ _ _⟩ | exact ⟨rfl, _, Eq.trans (World.drewN_drewN _ _ _) (congrArg (World.drewN _) (Nat.add_assoc _ _ _))⟩)) | (go_at_call 82; (with_reducible refine (spec_l1In.calls a0_0 (-1000000000000) 1000000000000 true _ A4.out).mono ?_); rintro e w' ⟨rfl, ⟨nd, rfl⟩⟩; (try first | exact ⟨rfl, _, World.drewN_drewN _ _ _⟩ | exact ⟨rfl, _, Eq.trans (World.drewN_drewN _ _ _) (congrArg (World.drewN _) (Nat.add_assoc _ _ _))⟩)) | (go_at_call 101; (with_reducible refine (spec_l1Abs.calls a0_0 t129 _ A6.out).mono ?_); rintro e w' ⟨rfl, ⟨nd, rfl⟩⟩; (try first | exact ⟨rfl, _, World.drewN_drewN _ _ _⟩ | exact ⟨rfl, _, Eq.trans (World.drewN_drewN _ _ _) (congrArg (World.drewN _) (Nat.add_assoc _ _ _))⟩)) | (go_at_call 100; (with_reducible refine (spec_veCommon.calls k t129 a0_1 t130 _ A7.out).mono ?_); rintro e w' ⟨rfl, ⟨nd, rfl⟩⟩; (try first | exact ⟨rfl, _, World.drewN_drewN _ _ _⟩ | exact ⟨rfl, _, Eq.trans (World.drewN_drewN _ _ _) (congrArg (World.drewN _) (Nat.add_assoc _ _ _))⟩))))
   go_ret
   exact ⟨by first | rfl | (simp [errW_none, errW_some] <;> rfl) | (simp [*, errW_none, errW_some] <;> rfl), by repeat (first | (with_reducible first | exact HB.out | apply below_alloc | apply pw_below_drewN | apply below_drew1 | refine below_set ?_ GE126.out) | exact HB.out)⟩
  ·replace c5 := Bool.eq_false_iff.mpr c5
   subst c5
   have H1 : (some false) = some r := by rw [if_neg (show ¬ (false = true) by decide)] at H; exact H
   clear H
   have H := H1
   clear H1
   obtain rfl := Option.some.inj H
   go_enter Try.func97, Try.ntmps97
   go_wp2_with (first | ((with_reducible refine gate_dst (N := 1) rfl ?_); refine box_event ?hg (N := 1) ?hd (cs := #[.int .i64 a0_0, .int .i64 a0_1]) (t := 44) ?hr ?_; (case hd => rfl); (case hg => rfl); (case hr => first | (go_simp; done) | (go_simp; rfl)); intro gb126 hg w10 hbox hb; have BK126 := Aside0.mk (hbox); have GW126 := xg HB hg; have GE126 := xg HB hg; replace HB := xp HB hb; clear hb hbox hg; have hcz11_0 : w10.cell? ⟨gb126, 0, none⟩ = some (.int .i64 a0_0) := (blk_cell BK126.out 0).trans rfl; have hcz11_1 : w10.cell? ⟨gb126, 1, none⟩ = some (.int .i64 a0_1) := (blk_cell BK126.out 1).trans rfl; have hfz11_0 := blk_frozen BK126.out 0; have hfz11_1 := blk_frozen BK126.out 1) | (go_at_call 82; (with_reducible refine (spec_l1In.calls a0_1 1 1000000 true _ A2.out).mono ?_); rintro e w' ⟨rfl, ⟨nd, rfl⟩⟩; (try first | exact ⟨rfl, _, World.drewN_drewN _ _ _⟩ | exact ⟨rfl, _, Eq.trans (World.drewN_drewN _ _ _) (congrArg (World.drewN _) (Nat.add_assoc _ _ _))⟩)) | (go_at_call 82; (with_reducible refine (spec_l1In.calls a0_0 (-1000000000000) 1000000000000 false _ A4.out).mono ?_); rintro e w' ⟨rfl, ⟨nd, rfl⟩⟩; (try first | exact ⟨rfl, _, World.drewN_drewN _ _ _⟩ | exact ⟨rfl, _, Eq.trans (World.drewN_drewN _ _ _) (congrArg (World.drewN _) (Nat.add_assoc _ _ _))⟩)))
   repeat (go_quiet (first | ((with_reducible refine gate_dst (N := 1) rfl ?_); refine box_event ?hg (N := 1) ?hd (cs := #[.int .i64 a0_0, .int .i64 a0_1]) (t := 44) ?hr ?_; (case hd => rfl); (case hg => rfl); (case hr => first | (go_simp; done) | (go_simp; rfl)); intro gb126 hg w10 hbox hb; have BK126 := Aside0.mk (hbox); have GW126 := xg HB hg; have GE126 := xg HB hg; replace HB := xp HB hb; clear hb hbox hg; have hcz11_0 : w10.cell? ⟨gb126, 0, none⟩ = some (.int .i64 a0_0) := (blk_cell BK126.out 0).trans rfl; have hcz11_1 : w10.cell? ⟨gb126, 1, none⟩ = some (.int .i64 a0_1) := (blk_cell BK126.out 1).trans rfl; have hfz11_0 := blk_frozen BK126.out 0; have hfz11_1 := blk_frozen BK126.out 1) | (go_at_call 82; (with_reducible refine (spec_l1In.calls a0_1 1 1000000 true _ A2.out).mono ?_); rintro e w' ⟨rfl, ⟨nd, rfl⟩⟩; (try first | exact ⟨rfl, _, World.drewN_drewN _ _ _⟩ | exact ⟨rfl, _, Eq.trans (World.drewN_drewN _ _ _) (congrArg (World.drewN _) (Nat.add_assoc _ _ _))⟩)) | (go_at_call 82; (with_reducible refine (spec_l1In.calls a0_0 (-1000000000000) 1000000000000 false _ A4.out).mono ?_); rintro e w' ⟨rfl, ⟨nd, rfl⟩⟩; (try first | exact ⟨rfl, _, World.drewN_drewN _ _ _⟩ | exact ⟨rfl, _, Eq.trans (World.drewN_drewN _ _ _) (congrArg (World.drewN _) (Nat.add_assoc _ _ _))⟩))); try go_wp2_with (first | ((with_reducible refine gate_dst (N := 1) rfl ?_); refine box_event ?hg (N := 1) ?hd (cs := #[.int .i64 a0_0, .int .i64 a0_1]) (t := 44) ?hr ?_; (case hd => rfl); (case hg => rfl); (case hr => first | (go_simp; done) | (go_simp; rfl)); intro gb126 hg w10 hbox hb; have BK126 := Aside0.mk (hbox); have GW126 := xg HB hg; have GE126 := xg HB hg; replace HB := xp HB hb; clear hb hbox hg; have hcz11_0 : w10.cell? ⟨gb126, 0, none⟩ = some (.int .i64 a0_0) := (blk_cell BK126.out 0).trans rfl; have hcz11_1 : w10.cell? ⟨gb126, 1, none⟩ = some (.int .i64 a0_1) := (blk_cell BK126.out 1).trans rfl; have hfz11_0 := blk_frozen BK126.out 0; have hfz11_1 := blk_frozen BK126.out 1) | (go_at_call 82; (with_reducible refine (spec_l1In.calls a0_1 1 1000000 true _ A2.out).mono ?_); rintro e w' ⟨rfl, ⟨nd, rfl⟩⟩; (try first | exact ⟨rfl, _, World.drewN_drewN _ _ _⟩ | exact ⟨rfl, _, Eq.trans (World.drewN_drewN _ _ _) (congrArg (World.drewN _) (Nat.add_assoc _ _ _))⟩)) | (go_at_call 82; (with_reducible refine (spec_l1In.calls a0_0 (-1000000000000) 1000000000000 false _ A4.out).mono ?_); rintro e w' ⟨rfl, ⟨nd, rfl⟩⟩; (try first | exact ⟨rfl, _, World.drewN_drewN _ _ _⟩ | exact ⟨rfl, _, Eq.trans (World.drewN_drewN _ _ _) (congrArg (World.drewN _) (Nat.add_assoc _ _ _))⟩))))
   go_ret
   exact ⟨by first | rfl | (simp [errW_none, errW_some] <;> rfl) | (simp [*, errW_none, errW_some] <;> rfl), by repeat (first | (with_reducible first | exact HB.out | apply below_alloc | apply pw_below_drewN | apply below_drew1 | refine below_set ?_ GE126.out) | exact HB.out)⟩
 ·replace c3 := Bool.eq_false_iff.mpr c3
  subst c3
  have H1 : (some false) = some r := by rw [if_neg (show ¬ (false = true) by decide)] at H; exact H
  clear H
  have H := H1
  clear H1
  obtain rfl := Option.some.inj H
  go_enter Try.func97, Try.ntmps97
  go_wp2_with (first | ((with_reducible refine gate_dst (N := 1) rfl ?_); refine box_event ?hg (N := 1) ?hd (cs := #[.int .i64 a0_0, .int .i64 a0_1]) (t := 44) ?hr ?_; (case hd => rfl); (case hg => rfl); (case hr => first | (go_simp; done) | (go_simp; rfl)); intro gb126 hg w12 hbox hb; have BK126 := Aside0.mk (hbox); have GW126 := xg HB hg; have GE126 := xg HB hg; replace HB := xp HB hb; clear hb hbox hg; have hcz13_0 : w12.cell? ⟨gb126, 0, none⟩ = some (.int .i64 a0_0) := (blk_cell BK126.out 0).trans rfl; have hcz13_1 : w12.cell? ⟨gb126, 1, none⟩ = some (.int .i64 a0_1) := (blk_cell BK126.out 1).trans rfl; have hfz13_0 := blk_frozen BK126.out 0; have hfz13_1 := blk_frozen BK126.out 1) | (go_at_call 82; (with_reducible refine (spec_l1In.calls a0_1 1 1000000 false _ A2.out).mono ?_); rintro e w' ⟨rfl, ⟨nd, rfl⟩⟩; (try first | exact ⟨rfl, _, World.drewN_drewN _ _ _⟩ | exact ⟨rfl, _, Eq.trans (World.drewN_drewN _ _ _) (congrArg (World.drewN _) (Nat.add_assoc _ _ _))⟩)))
  repeat (go_quiet (first | ((with_reducible refine gate_dst (N := 1) rfl ?_); refine box_event ?hg (N := 1) ?hd (cs := #[.int .i64 a0_0, .int .i64 a0_1]) (t := 44) ?hr ?_; (case hd => rfl); (case hg => rfl); (case hr => first | (go_simp; done) | (go_simp; rfl)); intro gb126 hg w12 hbox hb; have BK126 := Aside0.mk (hbox); have GW126 := xg HB hg; have GE126 := xg HB hg; replace HB := xp HB hb; clear hb hbox hg; have hcz13_0 : w12.cell? ⟨gb126, 0, none⟩ = some (.int .i64 a0_0) := (blk_cell BK126.out 0).trans rfl; have hcz13_1 : w12.cell? ⟨gb126, 1, none⟩ = some (.int .i64 a0_1) := (blk_cell BK126.out 1).trans rfl; have hfz13_0 := blk_frozen BK126.out 0; have hfz13_1 := blk_frozen BK126.out 1) | (go_at_call 82; (with_reducible refine (spec_l1In.calls a0_1 1 1000000 false _ A2.out).mono ?_); rintro e w' ⟨rfl, ⟨nd, rfl⟩⟩; (try first | exact ⟨rfl, _, World.drewN_drewN _ _ _⟩ | exact ⟨rfl, _, Eq.trans (World.drewN_drewN _ _ _) (congrArg (World.drewN _) (Nat.add_assoc _ _ _))⟩))); try go_wp2_with (first | ((with_reducible refine gate_dst (N := 1) rfl ?_); refine box_event ?hg (N := 1) ?hd (cs := #[.int .i64 a0_0, .int .i64 a0_1]) (t := 44) ?hr ?_; (case hd => rfl); (case hg => rfl); (case hr => first | (go_simp; done) | (go_simp; rfl)); intro gb126 hg w12 hbox hb; have BK126 := Aside0.mk (hbox); have GW126 := xg HB hg; have GE126 := xg HB hg; replace HB := xp HB hb; clear hb hbox hg; have hcz13_0 : w12.cell? ⟨gb126, 0, none⟩ = some (.int .i64 a0_0) := (blk_cell BK126.out 0).trans rfl; have hcz13_1 : w12.cell? ⟨gb126, 1, none⟩ = some (.int .i64 a0_1) := (blk_cell BK126.out 1).trans rfl; have hfz13_0 := blk_frozen BK126.out 0; have hfz13_1 := blk_frozen BK126.out 1) | (go_at_call 82; (with_reducible refine (spec_l1In.calls a0_1 1 1000000 false _ A2.out).mono ?_); rintro e w' ⟨rfl, ⟨nd, rfl⟩⟩; (try first | exact ⟨rfl, _, World.drewN_drewN _ _ _⟩ | exact ⟨rfl, _, Eq.trans (World.drewN_drewN _ _ _) (congrArg (World.drewN _) (Nat.add_assoc _ _ _))⟩))))
  go_ret
  exact ⟨by first | rfl | (simp [errW_none, errW_some] <;> rfl) | (simp [*, errW_none, errW_some] <;> rfl), by repeat (first | (with_reducible first | exact HB.out | apply below_alloc | apply pw_below_drewN | apply below_drew1 | refine below_set ?_ GE126.out) | exact HB.out)⟩

/-! ### spec_leAsked: function 69 -/
def spec_leAsked.f (k : Nat) (l0 : List (S63)) (a1_0 : Int) (a1_1 : Int) : Option (Bool) := (spec_leTanks.f k l0).bind fun t132 => (if t132 = true then ((spec_leGood.f k a1_0 a1_1).bind fun t133 => (if t133 = true then ((spec_l1In.f a1_1 1 1000).bind fun t134 => (if t134 = true then ((spec_l1In.f a1_0 0 1000000).bind fun t135 => (some t135)) else (some false))) else (some false))) else (some false))
theorem spec_leAsked.mono : ∀ a0 a1 a2 k, LeO (spec_leAsked.f k a0 a1 a2) (spec_leAsked.f (k + 1) a0 a1 a2) := by
 intro a0 a1 a2 k
 unfold spec_leAsked.f
 repeat' first
   | (with_reducible exact spec_leGood.mono _ _ _)
   | (with_reducible exact spec_leTanks.mono _ _)
   | (with_reducible exact LeO.refl _)
   | (with_reducible exact LeO.none _)
   | (with_reducible refine LeO.ite ?_ ?_)
   | (with_reducible refine LeO.bind ?_ (fun _ => ?_))
   | exact spec_leGood.mono _ _ _
   | exact spec_leTanks.mono _ _
   | exact LeO.none _
   | refine LeO.ite ?_ ?_
   | refine LeO.bind ?_ (fun _ => ?_)
set_option maxHeartbeats 8000000 in
set_option maxRecDepth 100000 in
theorem spec_leAsked.calls (k : Nat) (A0 : Option Addr) (c0 : Nat) (l0 : List (S63)) (a1_0 : Int) (a1_1 : Int) (r : Bool) (w : World) (hr0 : Kd.C k63 w A0 l0.length l0) (hc0 : l0.length ≤ c0) (h : spec_leAsked.f k l0 a1_0 a1_1 = some r) :
  Calls Try.prog 69 #[.slice A0 l0.length c0, .agg #[.int .i64 a1_0, .int .i64 a1_1]] w fun e w' => e = .returned (.bool r) ∧ Below w.heap.size w w' := by
 have hu44 := Try.underlying44
 have HR0 := Aside0.mk hr0
 have HC0 := Aside0.mk hc0
 clear hr0 hc0
 have HB := Aside0.mk (Below.refl w.heap.size w)
 have H : ((spec_leTanks.f k l0).bind fun t132 => (if t132 = true then ((spec_leGood.f k a1_0 a1_1).bind fun t133 => (if t133 = true then ((spec_l1In.f a1_1 1 1000).bind fun t134 => (if t134 = true then ((spec_l1In.f a1_0 0 1000000).bind fun t135 => (some t135)) else (some false))) else (some false))) else (some false))) = some r := h
 clear h
 replace H := Option.bind_eq_some_iff.mp H
 obtain ⟨t132, A30, H⟩ := H
 replace H : (if t132 = true then ((spec_leGood.f k a1_0 a1_1).bind fun t133 => (if t133 = true then ((spec_l1In.f a1_1 1 1000).bind fun t134 => (if t134 = true then ((spec_l1In.f a1_0 0 1000000).bind fun t135 => (some t135)) else (some false))) else (some false))) else (some false)) = some r := H
 have A3 := Aside0.mk A30
 clear A30
 by_cases c4 : t132 = true
 ·subst c4
  have H1 : ((spec_leGood.f k a1_0 a1_1).bind fun t133 => (if t133 = true then ((spec_l1In.f a1_1 1 1000).bind fun t134 => (if t134 = true then ((spec_l1In.f a1_0 0 1000000).bind fun t135 => (some t135)) else (some false))) else (some false))) = some r := by rw [if_pos rfl] at H; exact H
  clear H
  have H := H1
  clear H1
  replace H := Option.bind_eq_some_iff.mp H
  obtain ⟨t133, A50, H⟩ := H
  replace H : (if t133 = true then ((spec_l1In.f a1_1 1 1000).bind fun t134 => (if t134 = true then ((spec_l1In.f a1_0 0 1000000).bind fun t135 => (some t135)) else (some false))) else (some false)) = some r := H
  have A5 := Aside0.mk A50
  clear A50
  by_cases c6 : t133 = true
  ·subst c6
   have H1 : ((spec_l1In.f a1_1 1 1000).bind fun t134 => (if t134 = true then ((spec_l1In.f a1_0 0 1000000).bind fun t135 => (some t135)) else (some false))) = some r := by rw [if_pos rfl] at H; exact H
   clear H
   have H := H1
   clear H1
   replace H := Option.bind_eq_some_iff.mp H
   obtain ⟨t134, A70, H⟩ := H
   replace H : (if t134 = true then ((spec_l1In.f a1_0 0 1000000).bind fun t135 => (some t135)) else (some false)) = some r := H
   have A7 := Aside0.mk A70
   clear A70
   by_cases c8 : t134 = true
   ·subst c8
    have H1 : ((spec_l1In.f a1_0 0 1000000).bind fun t135 => (some t135)) = some r := by rw [if_pos rfl] at H; exact H
    clear H
    have H := H1
    clear H1
    replace H := Option.bind_eq_some_iff.mp H
    obtain ⟨t135, A90, H⟩ := H
    replace H : (some t135) = some r := H
    have A9 := Aside0.mk A90
    clear A90
    obtain rfl := Option.some.inj H
    go_enter Try.func69, Try.ntmps69
    go_wp2_with (first | ((with_reducible refine gate_dst (N := 3) rfl ?_); refine box_event ?hg (N := 3) ?hd (cs := #[.int .i64 a1_0, .int .i64 a1_1]) (t := 44) ?hr ?_; (case hd => rfl); (case hg => rfl); (case hr => first | (go_simp; done) | (go_simp; rfl)); intro gb131 hg w10 hbox hb; have BK131 := Aside0.mk (hbox); have GW131 := xg HB hg; have GE131 := xg HB hg; replace HB := xp HB hb; clear hb hbox hg) | ((with_reducible refine gate_callee (f := 50) rfl ?_); refine goesL_ (some 6) rfl rfl Try.func50 (by kernel_rfl) rfl #[.slice A0 l0.length c0] rfl (by (try simp only [List.map_toArray, List.map_cons, List.map_nil]); first | done | rfl | (simp only [List.length_drop, List.length_take]; rfl)) ?_; (with_reducible refine (spec_leTanks.calls k _ _ l0 true _ ?side1 ?side2 A3.out).mono ?_); (case side1 => exact xd ((Kd.C_below HR0.out HB.out))); (case side2 => exact HC0.out); rintro e w11 ⟨rfl, hb⟩; refine ⟨_, rfl, ?_⟩; replace BK131 := xk BK131 hb; replace HB := xp HB hb; (try clear hb); (try clear hb2); (try clear hk); (try clear hi); have hcz12_0 : w11.cell? ⟨gb131, 0, none⟩ = some (.int .i64 a1_0) := (blk_cell BK131.out 0).trans rfl; have hcz12_1 : w11.cell? ⟨gb131, 1, none⟩ = some (.int .i64 a1_1) := (blk_cell BK131.out 1).trans rfl; have hfz12_0 := blk_frozen BK131.out 0; have hfz12_1 := blk_frozen BK131.out 1) | (go_at_call 97; (with_reducible refine (spec_leGood.calls k a1_0 a1_1 true _ A5.out).mono ?_); rintro e w13 ⟨rfl, hb⟩; replace BK131 := xk BK131 hb; replace HB := xp HB hb; (try clear hb); (try clear hb2); (try clear hk); (try clear hi); have hcz14_0 : w13.cell? ⟨gb131, 0, none⟩ = some (.int .i64 a1_0) := (blk_cell BK131.out 0).trans rfl; have hcz14_1 : w13.cell? ⟨gb131, 1, none⟩ = some (.int .i64 a1_1) := (blk_cell BK131.out 1).trans rfl; have hfz14_0 := blk_frozen BK131.out 0; have hfz14_1 := blk_frozen BK131.out 1) | (go_at_call 82; (with_reducible refine (spec_l1In.calls a1_1 1 1000 true _ A7.out).mono ?_); rintro e w' ⟨rfl, ⟨nd, rfl⟩⟩) | (go_at_call 82; (with_reducible refine (spec_l1In.calls a1_0 0 1000000 t135 _ A9.out).mono ?_); rintro e w' ⟨rfl, ⟨nd, rfl⟩⟩))
    go_ret
    exact ⟨by first | rfl | (simp [errW_none, errW_some] <;> rfl) | (simp [*, errW_none, errW_some] <;> rfl), by repeat (first | (with_reducible first | exact HB.out | apply below_alloc | apply pw_below_drewN | apply below_drew1 | refine below_set ?_ GE131.out) | exact HB.out)⟩
   ·replace c8 := Bool.eq_false_iff.mpr c8
    subst c8
    have H1 : (some false) = some r := by rw [if_neg (show ¬ (false = true) by decide)] at H; exact H
    clear H
    have H := H1
    clear H1
    obtain rfl := Option.some.inj H
    go_enter Try.func69, Try.ntmps69
    go_wp2_with (first | ((with_reducible refine gate_dst (N := 3) rfl ?_); refine box_event ?hg (N := 3) ?hd (cs := #[.int .i64 a1_0, .int .i64 a1_1]) (t := 44) ?hr ?_; (case hd => rfl); (case hg => rfl); (case hr => first | (go_simp; done) | (go_simp; rfl)); intro gb131 hg w15 hbox hb; have BK131 := Aside0.mk (hbox); have GW131 := xg HB hg; have GE131 := xg HB hg; replace HB := xp HB hb; clear hb hbox hg) | ((with_reducible refine gate_callee (f := 50) rfl ?_); refine goesL_ (some 6) rfl rfl Try.func50 (by kernel_rfl) rfl #[.slice A0 l0.length c0] rfl (by (try simp only [List.map_toArray, List.map_cons, List.map_nil]); first | done | rfl | (simp only [List.length_drop, List.length_take]; rfl)) ?_; (with_reducible refine (spec_leTanks.calls k _ _ l0 true _ ?side1 ?side2 A3.out).mono ?_); (case side1 => exact xd ((Kd.C_below HR0.out HB.out))); (case side2 => exact HC0.out); rintro e w16 ⟨rfl, hb⟩; refine ⟨_, rfl, ?_⟩; replace BK131 := xk BK131 hb; replace HB := xp HB hb; (try clear hb); (try clear hb2); (try clear hk); (try clear hi); have hcz17_0 : w16.cell? ⟨gb131, 0, none⟩ = some (.int .i64 a1_0) := (blk_cell BK131.out 0).trans rfl; have hcz17_1 : w16.cell? ⟨gb131, 1, none⟩ = some (.int .i64 a1_1) := (blk_cell BK131.out 1).trans rfl; have hfz17_0 := blk_frozen BK131.out 0; have hfz17_1 := blk_frozen BK131.out 1) | (go_at_call 97; (with_reducible refine (spec_leGood.calls k a1_0 a1_1 true _ A5.out).mono ?_); rintro e w18 ⟨rfl, hb⟩; replace BK131 := xk BK131 hb; replace HB := xp HB hb; (try clear hb); (try clear hb2); (try clear hk); (try clear hi); have hcz19_0 : w18.cell? ⟨gb131, 0, none⟩ = some (.int .i64 a1_0) := (blk_cell BK131.out 0).trans rfl; have hcz19_1 : w18.cell? ⟨gb131, 1, none⟩ = some (.int .i64 a1_1) := (blk_cell BK131.out 1).trans rfl; have hfz19_0 := blk_frozen BK131.out 0; have hfz19_1 := blk_frozen BK131.out 1) | (go_at_call 82; (with_reducible refine (spec_l1In.calls a1_1 1 1000 false _ A7.out).mono ?_); rintro e w' ⟨rfl, ⟨nd, rfl⟩⟩))
    go_ret
    exact ⟨by first | rfl | (simp [errW_none, errW_some] <;> rfl) | (simp [*, errW_none, errW_some] <;> rfl), by repeat (first | (with_reducible first | exact HB.out | apply below_alloc | apply pw_below_drewN | apply below_drew1 | refine below_set ?_ GE131.out) | exact HB.out)⟩
  ·replace c6 := Bool.eq_false_iff.mpr c6
   subst c6
   have H1 : (some false) = some r := by rw [if_neg (show ¬ (false = true) by decide)] at H; exact H
   clear H
   have H := H1
   clear H1
   obtain rfl := Option.some.inj H
   go_enter Try.func69, Try.ntmps69
   go_wp2_with (first | ((with_reducible refine gate_dst (N := 3) rfl ?_); refine box_event ?hg (N := 3) ?hd (cs := #[.int .i64 a1_0, .int .i64 a1_1]) (t := 44) ?hr ?_; (case hd => rfl); (case hg => rfl); (case hr => first | (go_simp; done) | (go_simp; rfl)); intro gb131 hg w20 hbox hb; have BK131 := Aside0.mk (hbox); have GW131 := xg HB hg; have GE131 := xg HB hg; replace HB := xp HB hb; clear hb hbox hg) | ((with_reducible refine gate_callee (f := 50) rfl ?_); refine goesL_ (some 6) rfl rfl Try.func50 (by kernel_rfl) rfl #[.slice A0 l0.length c0] rfl (by (try simp only [List.map_toArray, List.map_cons, List.map_nil]); first | done | rfl | (simp only [List.length_drop, List.length_take]; rfl)) ?_; (with_reducible refine (spec_leTanks.calls k _ _ l0 true _ ?side1 ?side2 A3.out).mono ?_); (case side1 => exact xd ((Kd.C_below HR0.out HB.out))); (case side2 => exact HC0.out); rintro e w21 ⟨rfl, hb⟩; refine ⟨_, rfl, ?_⟩; replace BK131 := xk BK131 hb; replace HB := xp HB hb; (try clear hb); (try clear hb2); (try clear hk); (try clear hi); have hcz22_0 : w21.cell? ⟨gb131, 0, none⟩ = some (.int .i64 a1_0) := (blk_cell BK131.out 0).trans rfl; have hcz22_1 : w21.cell? ⟨gb131, 1, none⟩ = some (.int .i64 a1_1) := (blk_cell BK131.out 1).trans rfl; have hfz22_0 := blk_frozen BK131.out 0; have hfz22_1 := blk_frozen BK131.out 1) | (go_at_call 97; (with_reducible refine (spec_leGood.calls k a1_0 a1_1 false _ A5.out).mono ?_); rintro e w23 ⟨rfl, hb⟩; replace BK131 := xk BK131 hb; replace HB := xp HB hb; (try clear hb); (try clear hb2); (try clear hk); (try clear hi)))
   go_ret
   exact ⟨by first | rfl | (simp [errW_none, errW_some] <;> rfl) | (simp [*, errW_none, errW_some] <;> rfl), by repeat (first | (with_reducible first | exact HB.out | apply below_alloc | apply pw_below_drewN | apply below_drew1 | refine below_set ?_ GE131.out) | exact HB.out)⟩
 ·replace c4 := Bool.eq_false_iff.mpr c4
  subst c4
  have H1 : (some false) = some r := by rw [if_neg (show ¬ (false = true) by decide)] at H; exact H
  clear H
  have H := H1
  clear H1
  obtain rfl := Option.some.inj H
  go_enter Try.func69, Try.ntmps69
  go_wp2_with (first | ((with_reducible refine gate_dst (N := 3) rfl ?_); refine box_event ?hg (N := 3) ?hd (cs := #[.int .i64 a1_0, .int .i64 a1_1]) (t := 44) ?hr ?_; (case hd => rfl); (case hg => rfl); (case hr => first | (go_simp; done) | (go_simp; rfl)); intro gb131 hg w24 hbox hb; have BK131 := Aside0.mk (hbox); have GW131 := xg HB hg; have GE131 := xg HB hg; replace HB := xp HB hb; clear hb hbox hg) | ((with_reducible refine gate_callee (f := 50) rfl ?_); refine goesL_ (some 6) rfl rfl Try.func50 (by kernel_rfl) rfl #[.slice A0 l0.length c0] rfl (by (try simp only [List.map_toArray, List.map_cons, List.map_nil]); first | done | rfl | (simp only [List.length_drop, List.length_take]; rfl)) ?_; (with_reducible refine (spec_leTanks.calls k _ _ l0 false _ ?side1 ?side2 A3.out).mono ?_); (case side1 => exact xd ((Kd.C_below HR0.out HB.out))); (case side2 => exact HC0.out); rintro e w25 ⟨rfl, hb⟩; refine ⟨_, rfl, ?_⟩; replace BK131 := xk BK131 hb; replace HB := xp HB hb; (try clear hb); (try clear hb2); (try clear hk); (try clear hi)))
  go_ret
  exact ⟨by first | rfl | (simp [errW_none, errW_some] <;> rfl) | (simp [*, errW_none, errW_some] <;> rfl), by repeat (first | (with_reducible first | exact HB.out | apply below_alloc | apply pw_below_drewN | apply below_drew1 | refine below_set ?_ GE131.out) | exact HB.out)⟩

/-! ### spec_l1Own: function 98 -/
def spec_l1Own.f (l0 : List Int) : Option (List Int) := (some (([] : List Int) : List Int)).bind fun y136 => (if y136.length + l0.length < 17592186044416 then (some (y136 ++ l0)) else (none))
set_option maxHeartbeats 8000000 in
set_option maxRecDepth 100000 in
theorem spec_l1Own.calls (A0 : Option Addr) (c0 : Nat) (l0 : List Int) (r : List Int) (w : World) (hr0 : Kd.C (Kd.int .i64) w A0 l0.length l0) (hc0 : l0.length ≤ c0) (h : spec_l1Own.f l0 = some r) :
  Calls Try.prog 98 #[.slice A0 l0.length c0] w fun e w' => ∃ v0_ : Value, e = .returned (v0_) ∧ Kd.R (Kd.int .i64) 3 w' w.heap.size (fun _ => True) v0_ r ∧ Below w.heap.size w w' := by
 have HR0 := Aside0.mk hr0
 have HC0 := Aside0.mk hc0
 clear hr0 hc0
 have HB := Aside0.mk (Below.refl w.heap.size w)
 have H : ((some (([] : List Int) : List Int)).bind fun y136 => (if y136.length + l0.length < 17592186044416 then (some (y136 ++ l0)) else (none))) = some r := h
 clear h
 obtain ⟨y136, hy136⟩ : ∃ y_ : List Int, y_ = (([] : List Int)) := ⟨_, rfl⟩
 replace H : (if y136.length + l0.length < 17592186044416 then (some (y136 ++ l0)) else (none)) = some r := by first | (rw [hy136]; with_reducible exact H) | (have H2_ := (Option.bind_some _ _).symm.trans H; rw [hy136]; with_reducible exact H2_) | (have H2_ := (Option.bind_some _ _).symm.trans H; with_reducible exact H2_) | with_reducible exact H | (rw [hy136]; exact H) | exact H
 have Ny136 := Aside0.mk hy136
 clear hy136
 by_cases c2 : y136.length + l0.length < 17592186044416
 ·rw [if_pos c2] at H
  have LMc2 := Aside0.mk c2
  clear c2
  obtain ⟨y139, hy139⟩ : ∃ y_ : List Int, y_ = (y136 ++ l0) := ⟨_, rfl⟩
  replace H : (some y139) = some r := by first | (rw [hy139]; with_reducible exact H) | (have H2_ := (Option.bind_some _ _).symm.trans H; rw [hy139]; with_reducible exact H2_) | (have H2_ := (Option.bind_some _ _).symm.trans H; with_reducible exact H2_) | with_reducible exact H | (rw [hy139]; exact H) | exact H
  have Ny139 := Aside0.mk hy139
  clear hy139
  obtain rfl := Option.some.inj H
  go_enter Try.func98, Try.ntmps98
  go_wp2_with (first | ((with_reducible refine gate_dst (N := 3) rfl ?_); refine Kd.R_lit (Kd.int .i64) _ 3 ?hg (N := 3) ?hd (xs := ([] : List Int)) (inner := []) (ok := fun _ => True) (okp := fun _ => True) ?hr ?hp (fun _ hk => hk) trivial (Below.refl _ _) (Nat.le_refl _) (by simp) ?_; (case hd => rfl); (case hg => rfl); (case hr => first | (go_simp; done) | (go_simp; rfl)); (case hp => exact (Reps.none _ _)); intro v137 w3 ho4 hb hg_ hnew_; clear hg_ hnew_; (first | rw [← Ny136.out] at ho4 | (simp only [Int.reduceToNat] at ho4; rw [← Ny136.out] at ho4)); have HO138 := Aside0.mk (Kd.R_lower ho4 (below_size (xs HB.out))); replace HB := xp HB hb; clear hb ho4) | ((with_reducible refine gate_builtin (b := .append) (xs := #[.tmp 3, .tmp 4]) rfl ?_); at_builtin; refine Kd.R_append_rows (Kd.int .i64) (w0 := w) w.heap.size rfl (.tmp 3) (.tmp 4) 52 3 (.int .i64 0) 8 rfl Try.underlying52 info3 rfl (by decide) (by omega) v137 y136 l0 _ _ _ (fun _ => True) (fun _ => False) rfl rfl ?aO ?aR (fun _ _ h => h) (fun _ h => h.elim) ?aF ?aB ?aS ?aL ?_; (case aR => exact xd ((Kd.C_below HR0.out HB.out))); (case aB => exact (xs HB.out)); (case aF => exact (fun _ _ => trivial)); (case aO => exact (xr HO138.out)); (case aS => exact (below_size (xs HB.out))); (case aL => have := LMc2.out; omega); intro v140 w5 ho hb hg hat; rw [← Ny139.out] at ho; replace HB := Aside0.mk (hb); have HO141 := Aside0.mk (ho); clear HO138; clear ho hb hg hat))
  go_ret
  exact ⟨_, by first | rfl | (simp [errW_none, errW_some] <;> rfl) | (simp [*, errW_none, errW_some] <;> rfl), by (with_reducible repeat (first | apply Kd.R_alloc | apply Kd.R_drewN | apply Kd.R_drew)); exact HO141.out, by repeat (first | (with_reducible first | exact HB.out | apply below_alloc | apply pw_below_drewN | apply below_drew1) | exact HB.out)⟩
 ·rw [if_neg c2] at H
  exact absurd H (by simp)

/-! ### spec_leOrder: function 70 -/
mutual
def spec_leOrder.l0 : Nat → List (S63) → List Int → List (S63) → Int → Int → Option (List Int)
  | 0, _, _, _, _, _ => none
  | k + 1, x0, x3, x8, x9, x10 => if x10 < x9 then (if 0 ≤ x10 then (if x10 < (x8.length : Int) then (spec_leOrder.l1 k x0 x3 x10 0 x8 x9 x10 ((rd_T63 x8 x10).f0) ((rd_T63 x8 x10).f1) ((rd_T63 x8 x10).f2)) else (none)) else (none)) else (some x3)
def spec_leOrder.l1 : Nat → List (S63) → List Int → Int → Int → List (S63) → Int → Int → Int → Int → Int → Option (List Int)
  | 0, _, _, _, _, _, _, _, _, _, _ => none
  | k + 1, x0, x3, x4, x6, x8, x9, x10, x144000, x144001, x144002 => if x6 < (x3.length : Int) then (if 0 ≤ x6 then (if 0 ≤ (rd x3 x6) then (if (rd x3 x6) < (x0.length : Int) then (if ((rd_T63 x0 (rd x3 x6)).f1) ≤ x144001 then (spec_leOrder.l1 k x0 x3 x4 (wrap64 (x6 + 1)) x8 x9 x10 x144000 x144001 x144002) else (if x6 ≤ (x3.length : Int) then ((spec_l1Own.f (x3.take (x6 : Int).toNat)).bind fun t150 => (if t150.length < 17592186044416 then ((some (t150 ++ [x4] : List Int)).bind fun y153 => ((some (x3.drop (x6 : Int).toNat : List Int)).bind fun y156 => (if y153.length + y156.length < 17592186044416 then (spec_leOrder.l0 k x0 (y153 ++ y156) x8 x9 (wrap64 (x10 + 1))) else (none)))) else (none))) else (none))) else (none)) else (none)) else (none)) else (if 0 ≤ x6 then (if x6 ≤ (x3.length : Int) then ((spec_l1Own.f (x3.take (x6 : Int).toNat)).bind fun t167 => (if t167.length < 17592186044416 then ((some (t167 ++ [x4] : List Int)).bind fun y170 => ((some (x3.drop (x6 : Int).toNat : List Int)).bind fun y173 => (if y170.length + y173.length < 17592186044416 then (spec_leOrder.l0 k x0 (y170 ++ y173) x8 x9 (wrap64 (x10 + 1))) else (none)))) else (none))) else (none)) else (none))
end
def spec_leOrder.f (k : Nat) (l0 : List (S63)) : Option (List Int) := spec_leOrder.l0 k l0 ([] : List Int) l0 (l0.length : Int) 0
theorem spec_leOrder.mono_l : ∀ k, (∀ y0 y1 y2 y3 y4, LeO (spec_leOrder.l0 k y0 y1 y2 y3 y4) (spec_leOrder.l0 (k + 1) y0 y1 y2 y3 y4)) ∧ (∀ y0 y1 y2 y3 y4 y5 y6 y7 y8 y9, LeO (spec_leOrder.l1 k y0 y1 y2 y3 y4 y5 y6 y7 y8 y9) (spec_leOrder.l1 (k + 1) y0 y1 y2 y3 y4 y5 y6 y7 y8 y9))
 | 0 => ⟨fun _ _ _ _ _ r h => by simp [spec_leOrder.l0] at h, fun _ _ _ _ _ _ _ _ _ _ r h => by simp [spec_leOrder.l1] at h⟩
 | k + 1 => by
  obtain ⟨ih0, ih1⟩ := spec_leOrder.mono_l k
  refine ⟨?_, ?_⟩
  ·intro y0 y1 y2 y3 y4
   unfold spec_leOrder.l0
   repeat' first
   | (with_reducible exact ih0 _ _ _ _ _)
   | (with_reducible exact ih1 _ _ _ _ _ _ _ _ _ _)
   | (with_reducible exact LeO.refl _)
   | (with_reducible exact LeO.none _)
   | (with_reducible refine LeO.ite ?_ ?_)
   | (with_reducible refine LeO.bind ?_ (fun _ => ?_))
   | exact ih0 _ _ _ _ _
   | exact ih1 _ _ _ _ _ _ _ _ _ _
   | exact LeO.none _
   | refine LeO.ite ?_ ?_
   | refine LeO.bind ?_ (fun _ => ?_)
  ·intro y0 y1 y2 y3 y4 y5 y6 y7 y8 y9
   unfold spec_leOrder.l1
   repeat' first
   | (with_reducible exact ih0 _ _ _ _ _)
   | (with_reducible exact ih1 _ _ _ _ _ _ _ _ _ _)
   | (with_reducible exact LeO.refl _)
   | (with_reducible exact LeO.none _)
   | (with_reducible refine LeO.ite ?_ ?_)
   | (with_reducible refine LeO.bind ?_ (fun _ => ?_))
   | exact ih0 _ _ _ _ _
   | exact ih1 _ _ _ _ _ _ _ _ _ _
   | exact LeO.none _
   | refine LeO.ite ?_ ?_
   | refine LeO.bind ?_ (fun _ => ?_)
theorem spec_leOrder.mono : ∀ a0 k, LeO (spec_leOrder.f k a0) (spec_leOrder.f (k + 1) a0) := by
 intro a0 k
 obtain ⟨ih0, ih1⟩ := spec_leOrder.mono_l k
 unfold spec_leOrder.f
 repeat' first
   | (with_reducible exact ih0 _ _ _ _ _)
   | (with_reducible exact ih1 _ _ _ _ _ _ _ _ _ _)
   | (with_reducible exact LeO.refl _)
   | (with_reducible exact LeO.none _)
   | (with_reducible refine LeO.ite ?_ ?_)
   | (with_reducible refine LeO.bind ?_ (fun _ => ?_))
   | exact ih0 _ _ _ _ _
   | exact ih1 _ _ _ _ _ _ _ _ _ _
   | exact LeO.none _
   | refine LeO.ite ?_ ?_
   | refine LeO.bind ?_ (fun _ => ?_)
set_option maxHeartbeats 8000000 in
set_option maxRecDepth 100000 in
theorem spec_leOrder.calls (k : Nat) (A0 : Option Addr) (c0 : Nat) (l0 : List (S63)) (r : List Int) (w : World) (hr0 : Kd.C k63 w A0 l0.length l0) (hc0 : l0.length ≤ c0) (h : spec_leOrder.f k l0 = some r) :
  Calls Try.prog 70 #[.slice A0 l0.length c0] w fun e w' => ∃ v0_ : Value, e = .returned (v0_) ∧ Kd.R (Kd.int .i64) 3 w' w.heap.size (fun _ => True) v0_ r ∧ Below w.heap.size w w' := by
 have hu63 := Try.underlying63
 have HR0 := Aside0.mk hr0
 have HC0 := Aside0.mk hc0
 clear hr0 hc0
 have HB := Aside0.mk (Below.refl w.heap.size w)
 have H : (spec_leOrder.l0 k l0 ([] : List Int) l0 (l0.length : Int) 0) = some r := h
 clear h
 have H' := Aside0.mk H
 clear H
 go_enter Try.func70, Try.ntmps70
 go_wp2
 repeat (go_quiet (fail); try go_wp2)
 go_loopg [3, 10] k (fun kq v3 v10 w' => ∃ (x3_1 : List Int) (x10_1 : Int), v10 = .int .i64 x10_1 ∧ Aside0 (spec_leOrder.l0 kq l0 x3_1 l0 (l0.length : Int) x10_1 = some r) ∧ Aside0 (kq ≤ k) ∧ Aside0 (Kd.R (Kd.int .i64) 3 w' w.heap.size (fun _ => True) v3 x3_1) ∧ Aside0 (Below w.heap.size w w'))
 case atStart => exact ⟨(([] : List Int)), (0), (by first | rfl | (simp; done) | (simp [*]; done)), H', ⟨Nat.le_refl _⟩, ⟨by first | exact Kd.R_nil _ _ _ _ _ | exact Kd.N_nil _ _ _ _ _ | exact Kd.V_nil _ _ _ _ _ | exact Kd.Q_nil _ _ _ _ _ | exact Kd.S_nil _ _ _ _ _⟩, ⟨xs HB.out⟩⟩
 case round =>
  clear H'
  obtain ⟨x3_1, x10_1, rfl, HA, HK1, HO_3, HB⟩ := hrel
  cases gk with
  | zero => exact absurd HA.out (by simp [spec_leOrder.l0])
  | succ k1 =>
   have H := HA.out
   clear HA
   simp only [spec_leOrder.l0] at H
   by_cases c2 : x10_1 < (l0.length : Int)
   ·rw [if_pos c2] at H
    have c2b0 : decide (x10_1 < (l0.length : Int)) = true := decide_eq_true c2
    clear c2
    by_cases c3 : 0 ≤ x10_1
    ·rw [if_pos c3] at H
     have c3b0 : decide (0 ≤ x10_1) = true := decide_eq_true c3
     clear c3
     by_cases c4 : x10_1 < (l0.length : Int)
     ·rw [if_pos c4] at H
      have c4b0 : decide (x10_1 < (l0.length : Int)) = true := decide_eq_true c4
      clear c4
      have H' := Aside0.mk H
      clear H
      have p142 : 0 ≤ (x10_1 : Int) := of_decide_eq_true (by first | (with_reducible assumption) | assumption)
      have q142 : x10_1 < (l0.length : Int) := of_decide_eq_true (by first | (with_reducible assumption) | assumption)
      obtain ⟨ad142, e142, hx142_0, hx142_1, hx142_2⟩ := at_T63 HR0.out x10_1 p142 q142
      cases e142
      replace hx142_0 := (HB.out.cell (World.block_lt_of_cell? w _ hx142_0)).trans hx142_0
      replace hx142_1 := (HB.out.cell (World.block_lt_of_cell? w _ hx142_1)).trans hx142_1
      replace hx142_2 := (HB.out.cell (World.block_lt_of_cell? w _ hx142_2)).trans hx142_2
      replace p142 := eq_true p142
      replace q142 := eq_true q142
      go_wp2_with (first | ((with_reducible refine gate_dst (N := 5) rfl ?_); refine box_event ?hg (N := 5) ?hd (cs := #[.int .i64 0, .int .i64 0, .int .i64 0]) (t := 63) ?hr ?_; (case hd => rfl); (case hg => rfl); (case hr => first | (go_simp; done) | (go_simp; rfl)); intro gb143 hg w5 hbox hb; replace HO_3 := xq HO_3 hb; have BK143 := Aside0.mk (hbox); have GW143 := xg HB hg; have GE143 := xg HB hg; replace HB := xp HB hb; clear hb hbox hg; have hcz6_0 : w5.cell? ⟨gb143, 0, none⟩ = some (.int .i64 0) := (blk_cell BK143.out 0).trans rfl; have hcz6_1 : w5.cell? ⟨gb143, 1, none⟩ = some (.int .i64 0) := (blk_cell BK143.out 1).trans rfl; have hcz6_2 : w5.cell? ⟨gb143, 2, none⟩ = some (.int .i64 0) := (blk_cell BK143.out 2).trans rfl; have hfz6_0 := blk_frozen BK143.out 0; have hfz6_1 := blk_frozen BK143.out 1; have hfz6_2 := blk_frozen BK143.out 2))
      repeat (go_quiet (first | ((with_reducible refine gate_dst (N := 5) rfl ?_); refine box_event ?hg (N := 5) ?hd (cs := #[.int .i64 0, .int .i64 0, .int .i64 0]) (t := 63) ?hr ?_; (case hd => rfl); (case hg => rfl); (case hr => first | (go_simp; done) | (go_simp; rfl)); intro gb143 hg w5 hbox hb; replace HO_3 := xq HO_3 hb; have BK143 := Aside0.mk (hbox); have GW143 := xg HB hg; have GE143 := xg HB hg; replace HB := xp HB hb; clear hb hbox hg; have hcz6_0 : w5.cell? ⟨gb143, 0, none⟩ = some (.int .i64 0) := (blk_cell BK143.out 0).trans rfl; have hcz6_1 : w5.cell? ⟨gb143, 1, none⟩ = some (.int .i64 0) := (blk_cell BK143.out 1).trans rfl; have hcz6_2 : w5.cell? ⟨gb143, 2, none⟩ = some (.int .i64 0) := (blk_cell BK143.out 2).trans rfl; have hfz6_0 := blk_frozen BK143.out 0; have hfz6_1 := blk_frozen BK143.out 1; have hfz6_2 := blk_frozen BK143.out 2)); try go_wp2_with (first | ((with_reducible refine gate_dst (N := 5) rfl ?_); refine box_event ?hg (N := 5) ?hd (cs := #[.int .i64 0, .int .i64 0, .int .i64 0]) (t := 63) ?hr ?_; (case hd => rfl); (case hg => rfl); (case hr => first | (go_simp; done) | (go_simp; rfl)); intro gb143 hg w5 hbox hb; replace HO_3 := xq HO_3 hb; have BK143 := Aside0.mk (hbox); have GW143 := xg HB hg; have GE143 := xg HB hg; replace HB := xp HB hb; clear hb hbox hg; have hcz6_0 : w5.cell? ⟨gb143, 0, none⟩ = some (.int .i64 0) := (blk_cell BK143.out 0).trans rfl; have hcz6_1 : w5.cell? ⟨gb143, 1, none⟩ = some (.int .i64 0) := (blk_cell BK143.out 1).trans rfl; have hcz6_2 : w5.cell? ⟨gb143, 2, none⟩ = some (.int .i64 0) := (blk_cell BK143.out 2).trans rfl; have hfz6_0 := blk_frozen BK143.out 0; have hfz6_1 := blk_frozen BK143.out 1; have hfz6_2 := blk_frozen BK143.out 2)))
      go_loopg [6] k1 (fun kq v6 w' => ∃ (x6_2 : Int), v6 = .int .i64 x6_2 ∧ Aside0 (spec_leOrder.l1 kq l0 x3_1 x10_1 x6_2 l0 (l0.length : Int) x10_1 ((rd_T63 l0 x10_1).f0) ((rd_T63 l0 x10_1).f1) ((rd_T63 l0 x10_1).f2) = some r) ∧ Aside0 (kq ≤ k1) ∧ Aside0 (Kd.R (Kd.int .i64) 3 w' w.heap.size (fun _ => True) u3 x3_1) ∧ Aside0 (w'.heap[gb143]? = some (.cells #[.int .i64 ((rd_T63 l0 x10_1).f0), .int .i64 ((rd_T63 l0 x10_1).f1), .int .i64 ((rd_T63 l0 x10_1).f2)] 63 (0, 0))) ∧ Aside0 (Below w.heap.size w w'))
      case atStart => exact ⟨(0), (by first | rfl | (simp; done) | (simp [*]; done)), H', ⟨Nat.le_refl _⟩, ⟨by (with_reducible repeat (first | apply Kd.R_alloc | apply Kd.R_drewN | apply Kd.R_drew)); exact Kd.R_mono (Kd.R_far (p := ⟨gb143, 2, none⟩) (Kd.R_far (p := ⟨gb143, 1, none⟩) (Kd.R_far (p := ⟨gb143, 0, none⟩) (Kd.R_types HO_3.out BK143.out (by decide)) (fun _ hk => hk.2) (.int .i64 ((rd_T63 l0 x10_1).f0))) (fun _ hk => hk.2) (.int .i64 ((rd_T63 l0 x10_1).f1))) (fun _ hk => hk.2) (.int .i64 ((rd_T63 l0 x10_1).f2))) (fun _ hk => trivial)⟩, ⟨by (with_reducible repeat (first | refine blk_drewN ?_ _ | refine blk_drew ?_ | refine blk_alloc ?_ _)); refine blk_put (cs := #[.int .i64 ((rd_T63 l0 x10_1).f0), .int .i64 ((rd_T63 l0 x10_1).f1), .int .i64 0]) ?_ 2 _ rfl; (with_reducible repeat (first | refine blk_drewN ?_ _ | refine blk_drew ?_ | refine blk_alloc ?_ _)); refine blk_put (cs := #[.int .i64 ((rd_T63 l0 x10_1).f0), .int .i64 0, .int .i64 0]) ?_ 1 _ rfl; (with_reducible repeat (first | refine blk_drewN ?_ _ | refine blk_drew ?_ | refine blk_alloc ?_ _)); refine blk_put (cs := #[.int .i64 0, .int .i64 0, .int .i64 0]) ?_ 0 _ rfl; (with_reducible repeat (first | refine blk_drewN ?_ _ | refine blk_drew ?_ | refine blk_alloc ?_ _)); exact BK143.out⟩, ⟨xs HB.out⟩⟩
      case round =>
       clear H'
       try clear p1
       try clear q1
       try clear hx1
       try clear c2
       try clear c2b0
       try clear p2
       try clear c3
       try clear c3b0
       try clear c4
       try clear c4b0
       try clear hcz6_0
       try clear hcz6_1
       try clear hcz6_2
       try clear hfz6_0
       try clear hfz6_1
       try clear hfz6_2
       try clear hx142_0
       try clear hx142_1
       try clear hx142_2
       try clear p142
       try clear q142
       obtain ⟨x6_2, rfl, HA, HK2, HO_3, BK143, HB⟩ := hrel
       cases gk with
       | zero => exact absurd HA.out (by simp [spec_leOrder.l1])
       | succ k2 =>
        have H := HA.out
        clear HA
        simp only [spec_leOrder.l1] at H
        by_cases c7 : x6_2 < (x3_1.length : Int)
        ·rw [if_pos c7] at H
         have c7b0 : decide (x6_2 < (x3_1.length : Int)) = true := decide_eq_true c7
         clear c7
         by_cases c8 : 0 ≤ x6_2
         ·rw [if_pos c8] at H
          have c8b0 : decide (0 ≤ x6_2) = true := decide_eq_true c8
          clear c8
          by_cases c9 : 0 ≤ (rd x3_1 x6_2)
          ·rw [if_pos c9] at H
           have c9b0 : decide (0 ≤ (rd x3_1 x6_2)) = true := decide_eq_true c9
           clear c9
           by_cases c10 : (rd x3_1 x6_2) < (l0.length : Int)
           ·rw [if_pos c10] at H
            have c10b0 : decide ((rd x3_1 x6_2) < (l0.length : Int)) = true := decide_eq_true c10
            clear c10
            by_cases c11 : ((rd_T63 l0 (rd x3_1 x6_2)).f1) ≤ ((rd_T63 l0 x10_1).f1)
            ·rw [if_pos c11] at H
             have c11b0 : decide (((rd_T63 l0 (rd x3_1 x6_2)).f1) ≤ ((rd_T63 l0 x10_1).f1)) = true := decide_eq_true c11
             clear c11
             have H' := Aside0.mk H
             clear H
             obtain ⟨Ao12, co12, eo12⟩ := Kd.R_slice HO_3.out
             subst eo12
             have p144 : 0 ≤ (x6_2 : Int) := of_decide_eq_true (by first | (with_reducible assumption) | assumption)
             have q144 : x6_2 < (x3_1.length : Int) := of_decide_eq_true (by first | (with_reducible assumption) | assumption)
             obtain ⟨ad144, e144, hx144_0⟩ := Kd.at_int (Kd.R_reads' HO_3.out).2.2 x6_2 p144 q144
             cases e144
             replace p144 := eq_true p144
             replace q144 := eq_true q144
             have p145 : 0 ≤ ((rd x3_1 x6_2) : Int) := of_decide_eq_true (by first | (with_reducible assumption) | assumption)
             have q145 : (rd x3_1 x6_2) < (l0.length : Int) := of_decide_eq_true (by first | (with_reducible assumption) | assumption)
             obtain ⟨ad145, e145, hx145_0, hx145_1, hx145_2⟩ := at_T63 HR0.out (rd x3_1 x6_2) p145 q145
             obtain rfl : ad142 = ad145 := (by injection e145)
             replace hx145_0 := (HB.out.cell (World.block_lt_of_cell? w _ hx145_0)).trans hx145_0
             replace hx145_1 := (HB.out.cell (World.block_lt_of_cell? w _ hx145_1)).trans hx145_1
             replace hx145_2 := (HB.out.cell (World.block_lt_of_cell? w _ hx145_2)).trans hx145_2
             replace p145 := eq_true p145
             replace q145 := eq_true q145
             have hcz13_0 : wr.cell? ⟨gb143, 0, none⟩ = some (.int .i64 ((rd_T63 l0 x10_1).f0)) := (blk_cell BK143.out 0).trans rfl
             have hcz13_1 : wr.cell? ⟨gb143, 1, none⟩ = some (.int .i64 ((rd_T63 l0 x10_1).f1)) := (blk_cell BK143.out 1).trans rfl
             have hcz13_2 : wr.cell? ⟨gb143, 2, none⟩ = some (.int .i64 ((rd_T63 l0 x10_1).f2)) := (blk_cell BK143.out 2).trans rfl
             have hfz13_0 := blk_frozen BK143.out 0
             have hfz13_1 := blk_frozen BK143.out 1
             have hfz13_2 := blk_frozen BK143.out 2
             go_wp2
             repeat (go_quiet (fail); try go_wp2)
             go_roundg k2
             case measure => have := HK1.out; have := HK2.out; omega
             case rel => exact ⟨(wrap64 (x6_2 + 1)), (by first | rfl | (simp; done) | (simp [*]; done)), H', ⟨by have := HK1.out; have := HK2.out; omega⟩, ⟨xr HO_3.out⟩, ⟨xb BK143.out⟩, ⟨xs HB.out⟩⟩
            ·rw [if_neg c11] at H
             have c11b0 : decide (((rd_T63 l0 (rd x3_1 x6_2)).f1) ≤ ((rd_T63 l0 x10_1).f1)) = false := decide_eq_false c11
             clear c11
             have c14b0 := eq_true (of_decide_eq_true (by first | (with_reducible assumption) | assumption) : 0 ≤ x6_2)
             by_cases c15 : x6_2 ≤ (x3_1.length : Int)
             ·rw [if_pos c15] at H
              have c15b0 := eq_true c15
              have c15b1 : decide (x6_2 ≤ (x3_1.length : Int)) = true := decide_eq_true c15
              clear c15
              obtain ⟨y146, hy146⟩ : ∃ y_ : List Int, y_ = (x3_1.take (x6_2 : Int).toNat) := ⟨_, rfl⟩
              replace H : ((spec_l1Own.f y146).bind fun t150 => (if t150.length < 17592186044416 then ((some (t150 ++ [x10_1] : List Int)).bind fun y153 => ((some (x3_1.drop (x6_2 : Int).toNat : List Int)).bind fun y156 => (if y153.length + y156.length < 17592186044416 then (spec_leOrder.l0 k2 l0 (y153 ++ y156) l0 (l0.length : Int) (wrap64 (x10_1 + 1))) else (none)))) else (none))) = some r := by first | (rw [hy146]; with_reducible exact H) | (have H2_ := (Option.bind_some _ _).symm.trans H; rw [hy146]; with_reducible exact H2_) | (have H2_ := (Option.bind_some _ _).symm.trans H; with_reducible exact H2_) | with_reducible exact H | (rw [hy146]; exact H) | exact H
              have Ny146 := Aside0.mk hy146
              clear hy146
              replace H := Option.bind_eq_some_iff.mp H
              obtain ⟨t150, A160, H⟩ := H
              replace H : (if t150.length < 17592186044416 then ((some (t150 ++ [x10_1] : List Int)).bind fun y153 => ((some (x3_1.drop (x6_2 : Int).toNat : List Int)).bind fun y156 => (if y153.length + y156.length < 17592186044416 then (spec_leOrder.l0 k2 l0 (y153 ++ y156) l0 (l0.length : Int) (wrap64 (x10_1 + 1))) else (none)))) else (none)) = some r := H
              have A16 := Aside0.mk A160
              clear A160
              by_cases c17 : t150.length < 17592186044416
              ·rw [if_pos c17] at H
               have LMc17 := Aside0.mk c17
               clear c17
               obtain ⟨y153, hy153⟩ : ∃ y_ : List Int, y_ = (t150 ++ [x10_1]) := ⟨_, rfl⟩
               replace H : ((some (x3_1.drop (x6_2 : Int).toNat : List Int)).bind fun y156 => (if y153.length + y156.length < 17592186044416 then (spec_leOrder.l0 k2 l0 (y153 ++ y156) l0 (l0.length : Int) (wrap64 (x10_1 + 1))) else (none))) = some r := by first | (rw [hy153]; with_reducible exact H) | (have H2_ := (Option.bind_some _ _).symm.trans H; rw [hy153]; with_reducible exact H2_) | (have H2_ := (Option.bind_some _ _).symm.trans H; with_reducible exact H2_) | with_reducible exact H | (rw [hy153]; exact H) | exact H
               have Ny153 := Aside0.mk hy153
               clear hy153
               have c18b0 := eq_true (of_decide_eq_true (by first | (with_reducible assumption) | assumption) : 0 ≤ x6_2)
               have c19b0 := eq_true (of_decide_eq_true (by first | (with_reducible assumption) | assumption) : x6_2 ≤ (x3_1.length : Int))
               obtain ⟨y156, hy156⟩ : ∃ y_ : List Int, y_ = (x3_1.drop (x6_2 : Int).toNat) := ⟨_, rfl⟩
               replace H : (if y153.length + y156.length < 17592186044416 then (spec_leOrder.l0 k2 l0 (y153 ++ y156) l0 (l0.length : Int) (wrap64 (x10_1 + 1))) else (none)) = some r := by first | (rw [hy156]; with_reducible exact H) | (have H2_ := (Option.bind_some _ _).symm.trans H; rw [hy156]; with_reducible exact H2_) | (have H2_ := (Option.bind_some _ _).symm.trans H; with_reducible exact H2_) | with_reducible exact H | (rw [hy156]; exact H) | exact H
               have Ny156 := Aside0.mk hy156
               clear hy156
               by_cases c20 : y153.length + y156.length < 17592186044416
               ·rw [if_pos c20] at H
                have LMc20 := Aside0.mk c20
                clear c20
                obtain ⟨y160, hy160⟩ : ∃ y_ : List Int, y_ = (y153 ++ y156) := ⟨_, rfl⟩
                replace H : (spec_leOrder.l0 k2 l0 y160 l0 (l0.length : Int) (wrap64 (x10_1 + 1))) = some r := by first | (rw [hy160]; with_reducible exact H) | (have H2_ := (Option.bind_some _ _).symm.trans H; rw [hy160]; with_reducible exact H2_) | (have H2_ := (Option.bind_some _ _).symm.trans H; with_reducible exact H2_) | with_reducible exact H | (rw [hy160]; exact H) | exact H
                have Ny160 := Aside0.mk hy160
                clear hy160
                have H' := Aside0.mk H
                clear H
                obtain ⟨Ao21, co21, eo21⟩ := Kd.R_slice HO_3.out
                subst eo21
                have p144 : 0 ≤ (x6_2 : Int) := of_decide_eq_true (by first | (with_reducible assumption) | assumption)
                have q144 : x6_2 < (x3_1.length : Int) := of_decide_eq_true (by first | (with_reducible assumption) | assumption)
                obtain ⟨ad144, e144, hx144_0⟩ := Kd.at_int (Kd.R_reads' HO_3.out).2.2 x6_2 p144 q144
                cases e144
                replace p144 := eq_true p144
                replace q144 := eq_true q144
                have p145 : 0 ≤ ((rd x3_1 x6_2) : Int) := of_decide_eq_true (by first | (with_reducible assumption) | assumption)
                have q145 : (rd x3_1 x6_2) < (l0.length : Int) := of_decide_eq_true (by first | (with_reducible assumption) | assumption)
                obtain ⟨ad145, e145, hx145_0, hx145_1, hx145_2⟩ := at_T63 HR0.out (rd x3_1 x6_2) p145 q145
                obtain rfl : ad142 = ad145 := (by injection e145)
                replace hx145_0 := (HB.out.cell (World.block_lt_of_cell? w _ hx145_0)).trans hx145_0
                replace hx145_1 := (HB.out.cell (World.block_lt_of_cell? w _ hx145_1)).trans hx145_1
                replace hx145_2 := (HB.out.cell (World.block_lt_of_cell? w _ hx145_2)).trans hx145_2
                replace p145 := eq_true p145
                replace q145 := eq_true q145
                have hcz22_0 : wr.cell? ⟨gb143, 0, none⟩ = some (.int .i64 ((rd_T63 l0 x10_1).f0)) := (blk_cell BK143.out 0).trans rfl
                have hcz22_1 : wr.cell? ⟨gb143, 1, none⟩ = some (.int .i64 ((rd_T63 l0 x10_1).f1)) := (blk_cell BK143.out 1).trans rfl
                have hcz22_2 : wr.cell? ⟨gb143, 2, none⟩ = some (.int .i64 ((rd_T63 l0 x10_1).f2)) := (blk_cell BK143.out 2).trans rfl
                have hfz22_0 := blk_frozen BK143.out 0
                have hfz22_1 := blk_frozen BK143.out 1
                have hfz22_2 := blk_frozen BK143.out 2
                have q23 : (x6_2 : Int) ≤ ((x3_1.length : Int) : Int) := of_decide_eq_true (by first | (with_reducible assumption) | assumption)
                obtain ⟨i023, hi023, _, hsz23, _⟩ := info_parts info3
                have hroom23 : x3_1.length ≤ co21 := (Kd.R_reads' HO_3.out).2.1
                have hC23 : Kd.C (Kd.int .i64) _ (some ad144) x3_1.length x3_1 := (Kd.R_reads' HO_3.out).2.2
                have hcut23 := cut_to (P := Try.prog) 52 3 .i64 Try.underlying52 hi023 (some ad144) x3_1.length co21 x6_2 (of_decide_eq_true (by first | (with_reducible assumption) | assumption)) q23 hroom23
                have hr23 := Kd.C_take (m := (x6_2 : Int).toNat) hC23 (by omega)
                have hy23 : y146.length = (x6_2 : Int).toNat := (by rw [Ny146.out, List.length_take]; omega)
                rw [← Ny146.out] at hr23
                rw [← hy23] at hcut23
                have HR149 := Aside0.mk hr23
                have HC149 := Aside0.mk (show y146.length ≤ co21 from by omega)
                clear hr23 hC23 hroom23 hi023 hsz23
                have KY23 := Aside0.mk hy23
                clear hy23
                have KL23 := Aside0.mk (show (x6_2 : Int).toNat ≤ x3_1.length from by omega)
                replace q23 := eq_true q23
                go_wp2_with (first | (go_at_call 98; (with_reducible refine (spec_l1Own.calls _ _ y146 t150 _ ?side1 ?side2 A16.out).mono ?_); (case side1 => repeat (first | exact (by repeat (first | (with_reducible exact HR149.out) | (with_reducible refine Kd.C_alloc ?_ _) | (with_reducible refine Kd.C_drewN ?_ _) | (with_reducible refine Kd.C_drew ?_) | exact HR149.out)) | (with_reducible refine Kd.C_alloc ?_ _) | (with_reducible refine Kd.C_drewN ?_ _) | (with_reducible refine Kd.C_drew ?_))); (case side2 => exact HC149.out); rintro e w24 ⟨v151, rfl, ho0, hb⟩; have HO152 := Aside0.mk (Kd.R_lower (Kd.R_new' ho0 (Kd.R_lt (xr HO_3.out))) (below_size (xs HB.out))); replace HO_3 := Aside0.mk (Kd.R_elder' (xr HO_3.out) (Kd.R_base ho0) hb); replace BK143 := xk BK143 hb; replace HR149 := Aside0.mk (Kd.C_below (by repeat (first | (with_reducible exact HR149.out) | (with_reducible refine Kd.C_alloc ?_ _) | (with_reducible refine Kd.C_drewN ?_ _) | (with_reducible refine Kd.C_drew ?_) | exact HR149.out)) hb); replace HB := xp HB hb; (try clear hb); (try clear hb2); (try clear hk); (try clear hi); (try clear ho0)) | ((with_reducible refine gate_builtin (b := .append) (xs := #[.tmp 37, .tmp 39]) rfl ?_); at_builtin; refine Kd.R_append (Kd.int .i64) (w0 := w) w.heap.size rfl (.tmp 37) (.tmp 39) 52 3 (.int .i64 0) 8 rfl Try.underlying52 info3 rfl (by decide) (by omega) v151 t150 x10_1 [.int .i64 x10_1] (fun k_ => some k_ ≠ (.slice (some ad144) x3_1.length co21 : Value).ownBlock) (fun _ => False) rfl rfl ?aP (fun _ hk => hk.elim) ?aF ?aO ?aB ?aS ?aL ?_; (case aP => exact rfl); (case aB => exact (xs HB.out)); (case aF => exact (fun k_ hk => Kd.fresh' (Kd.R_lt (xr HO_3.out)) k_ hk)); (case aO => exact (xm HO152 (fun _ hk => hk.2))); (case aS => exact (below_size (xs HB.out))); (case aL => have := LMc17.out; omega); intro v154 w25 ho hb hg hat; rw [← Ny153.out] at ho; replace BK143 := Aside0.mk (blk_grown (g := gb143) (o := .cells #[.int .i64 ((rd_T63 l0 x10_1).f0), .int .i64 ((rd_T63 l0 x10_1).f1), .int .i64 ((rd_T63 l0 x10_1).f2)] 63 (0, 0)) (xb BK143.out) hg (Kd.R_ne HO152.out BK143.out (by decide))); replace HB := Aside0.mk (hb); replace HR149 := Aside0.mk ((show Kd.C (Kd.int .i64) w25 (some ad144) y146.length y146 from by rw [Ny146.out]; exact Kd.C_take (m := (x6_2 : Int).toNat) ((Kd.R_reads' (Kd.R_after (ok := (fun _ => True)) (xr HO_3.out) hg hat)).2.2) KL23.out)); replace HO_3 := Aside0.mk (Kd.R_after (ok := (fun _ => True)) (xr HO_3.out) hg hat); have HO155 := Aside0.mk (ho); clear HO152; clear ho hb hg hat; have q26 : (x6_2 : Int) ≤ ((x3_1.length : Int) : Int) := of_decide_eq_true (by first | (with_reducible assumption) | assumption); obtain ⟨i026, hi026, _, hsz26, _⟩ := info_parts info3; have hroom26 : x3_1.length ≤ co21 := (Kd.R_reads' HO_3.out).2.1; have hC26 : Kd.C (Kd.int .i64) _ (some ad144) x3_1.length x3_1 := (Kd.R_reads' HO_3.out).2.2; have q026 : (0 : Int) ≤ (x6_2 : Int) := of_decide_eq_true (by first | (with_reducible assumption) | assumption); have hcut26 := cut_from (P := Try.prog) 52 3 .i64 Try.underlying52 hi026 1 hsz26 (some ad144) x3_1.length co21 x6_2 q026 q26; have hr26 := Kd.C_drop (m := (x6_2 : Int).toNat) (c := co21) hC26 (by omega) hroom26; obtain ⟨A26, hA26⟩ : ∃ A1, A1 = (if co21 = (x6_2 : Int).toNat then (some ad144) else ((some ad144) : Option Addr).map (·.add ((x6_2 : Int).toNat * 1))) := ⟨_, rfl⟩; obtain ⟨c26, hc26⟩ : ∃ c1, c1 = co21 - (x6_2 : Int).toNat := ⟨_, rfl⟩; have hy26 : y156.length = x3_1.length - (x6_2 : Int).toNat := (by rw [Ny156.out, List.length_drop] <;> omega); rw [show (x3_1).drop (x6_2 : Int).toNat = y156 from Ny156.out.symm] at hr26; replace hr26 : Kd.C (Kd.int .i64) _ A26 y156.length y156 := (by rw [hA26]; exact hr26); rw [← hy26, ← hA26, ← hc26] at hcut26; have HR159 := Aside0.mk hr26; have HC159 := Aside0.mk (show y156.length ≤ c26 from by rw [hy26, hc26]; exact Nat.sub_le_sub_right hroom26 _); clear hr26 hC26 hroom26 hi026 hsz26 hc26; have KY26 := Aside0.mk hy26; have KA26 := Aside0.mk hA26; clear hy26 hA26; have KL26 := Aside0.mk (show (x6_2 : Int).toNat ≤ x3_1.length from by omega); replace q26 := eq_true q26) | ((with_reducible refine gate_builtin (b := .append) (xs := #[.tmp 41, .tmp 44]) rfl ?_); at_builtin; refine Kd.R_append_rows (Kd.int .i64) (w0 := w) w.heap.size rfl (.tmp 41) (.tmp 44) 52 3 (.int .i64 0) 8 rfl Try.underlying52 info3 rfl (by decide) (by omega) v154 y153 y156 _ _ _ (fun k_ => some k_ ≠ (.slice (some ad144) x3_1.length co21 : Value).ownBlock) (fun _ => False) rfl rfl ?aO ?aR (fun _ _ h => h) (fun _ h => h.elim) ?aF ?aB ?aS ?aL ?_; (case aR => repeat (first | exact (by repeat (first | (with_reducible exact HR159.out) | (with_reducible refine Kd.C_alloc ?_ _) | (with_reducible refine Kd.C_drewN ?_ _) | (with_reducible refine Kd.C_drew ?_) | exact HR159.out)) | (with_reducible refine Kd.C_alloc ?_ _) | (with_reducible refine Kd.C_drewN ?_ _) | (with_reducible refine Kd.C_drew ?_))); (case aB => exact (xs HB.out)); (case aF => exact (fun k_ hk => Kd.fresh' (Kd.R_lt (xr HO_3.out)) k_ hk)); (case aO => exact (xr HO155.out)); (case aS => exact (below_size (xs HB.out))); (case aL => have := LMc20.out; omega); intro v161 w27 ho hb hg hat; rw [← Ny160.out] at ho; replace BK143 := Aside0.mk (blk_grown (g := gb143) (o := .cells #[.int .i64 ((rd_T63 l0 x10_1).f0), .int .i64 ((rd_T63 l0 x10_1).f1), .int .i64 ((rd_T63 l0 x10_1).f2)] 63 (0, 0)) (xb BK143.out) hg (Kd.R_ne HO155.out BK143.out (by decide))); replace HB := Aside0.mk (hb); replace HR149 := Aside0.mk ((show Kd.C (Kd.int .i64) w27 (some ad144) y146.length y146 from by rw [Ny146.out]; exact Kd.C_take (m := (x6_2 : Int).toNat) ((Kd.R_reads' (Kd.R_after (ok := (fun _ => True)) (xr HO_3.out) hg hat)).2.2) KL23.out)); replace HR159 := Aside0.mk ((show Kd.C (Kd.int .i64) w27 A26 y156.length y156 from by rw [Ny156.out, KA26.out]; exact Kd.C_drop (m := (x6_2 : Int).toNat) (c := co21) ((Kd.R_reads' (Kd.R_after (ok := (fun _ => True)) (xr HO_3.out) hg hat)).2.2) KL26.out ((Kd.R_reads' (Kd.R_after (ok := (fun _ => True)) (xr HO_3.out) hg hat)).2.1))); replace HO_3 := Aside0.mk (Kd.R_after (ok := (fun _ => True)) (xr HO_3.out) hg hat); have HO162 := Aside0.mk (ho); clear HO155; clear ho hb hg hat))
                repeat (go_quiet (first | (go_at_call 98; (with_reducible refine (spec_l1Own.calls _ _ y146 t150 _ ?side1 ?side2 A16.out).mono ?_); (case side1 => repeat (first | exact (by repeat (first | (with_reducible exact HR149.out) | (with_reducible refine Kd.C_alloc ?_ _) | (with_reducible refine Kd.C_drewN ?_ _) | (with_reducible refine Kd.C_drew ?_) | exact HR149.out)) | (with_reducible refine Kd.C_alloc ?_ _) | (with_reducible refine Kd.C_drewN ?_ _) | (with_reducible refine Kd.C_drew ?_))); (case side2 => exact HC149.out); rintro e w24 ⟨v151, rfl, ho0, hb⟩; have HO152 := Aside0.mk (Kd.R_lower (Kd.R_new' ho0 (Kd.R_lt (xr HO_3.out))) (below_size (xs HB.out))); replace HO_3 := Aside0.mk (Kd.R_elder' (xr HO_3.out) (Kd.R_base ho0) hb); replace BK143 := xk BK143 hb; replace HR149 := Aside0.mk (Kd.C_below (by repeat (first | (with_reducible exact HR149.out) | (with_reducible refine Kd.C_alloc ?_ _) | (with_reducible refine Kd.C_drewN ?_ _) | (with_reducible refine Kd.C_drew ?_) | exact HR149.out)) hb); replace HB := xp HB hb; (try clear hb); (try clear hb2); (try clear hk); (try clear hi); (try clear ho0)) | ((with_reducible refine gate_builtin (b := .append) (xs := #[.tmp 37, .tmp 39]) rfl ?_); at_builtin; refine Kd.R_append (Kd.int .i64) (w0 := w) w.heap.size rfl (.tmp 37) (.tmp 39) 52 3 (.int .i64 0) 8 rfl Try.underlying52 info3 rfl (by decide) (by omega) v151 t150 x10_1 [.int .i64 x10_1] (fun k_ => some k_ ≠ (.slice (some ad144) x3_1.length co21 : Value).ownBlock) (fun _ => False) rfl rfl ?aP (fun _ hk => hk.elim) ?aF ?aO ?aB ?aS ?aL ?_; (case aP => exact rfl); (case aB => exact (xs HB.out)); (case aF => exact (fun k_ hk => Kd.fresh' (Kd.R_lt (xr HO_3.out)) k_ hk)); (case aO => exact (xm HO152 (fun _ hk => hk.2))); (case aS => exact (below_size (xs HB.out))); (case aL => have := LMc17.out; omega); intro v154 w25 ho hb hg hat; rw [← Ny153.out] at ho; replace BK143 := Aside0.mk (blk_grown (g := gb143) (o := .cells #[.int .i64 ((rd_T63 l0 x10_1).f0), .int .i64 ((rd_T63 l0 x10_1).f1), .int .i64 ((rd_T63 l0 x10_1).f2)] 63 (0, 0)) (xb BK143.out) hg (Kd.R_ne HO152.out BK143.out (by decide))); replace HB := Aside0.mk (hb); replace HR149 := Aside0.mk ((show Kd.C (Kd.int .i64) w25 (some ad144) y146.length y146 from by rw [Ny146.out]; exact Kd.C_take (m := (x6_2 : Int).toNat) ((Kd.R_reads' (Kd.R_after (ok := (fun _ => True)) (xr HO_3.out) hg hat)).2.2) KL23.out)); replace HO_3 := Aside0.mk (Kd.R_after (ok := (fun _ => True)) (xr HO_3.out) hg hat); have HO155 := Aside0.mk (ho); clear HO152; clear ho hb hg hat; have q26 : (x6_2 : Int) ≤ ((x3_1.length : Int) : Int) := of_decide_eq_true (by first | (with_reducible assumption) | assumption); obtain ⟨i026, hi026, _, hsz26, _⟩ := info_parts info3; have hroom26 : x3_1.length ≤ co21 := (Kd.R_reads' HO_3.out).2.1; have hC26 : Kd.C (Kd.int .i64) _ (some ad144) x3_1.length x3_1 := (Kd.R_reads' HO_3.out).2.2; have q026 : (0 : Int) ≤ (x6_2 : Int) := of_decide_eq_true (by first | (with_reducible assumption) | assumption); have hcut26 := cut_from (P := Try.prog) 52 3 .i64 Try.underlying52 hi026 1 hsz26 (some ad144) x3_1.length co21 x6_2 q026 q26; have hr26 := Kd.C_drop (m := (x6_2 : Int).toNat) (c := co21) hC26 (by omega) hroom26; obtain ⟨A26, hA26⟩ : ∃ A1, A1 = (if co21 = (x6_2 : Int).toNat then (some ad144) else ((some ad144) : Option Addr).map (·.add ((x6_2 : Int).toNat * 1))) := ⟨_, rfl⟩; obtain ⟨c26, hc26⟩ : ∃ c1, c1 = co21 - (x6_2 : Int).toNat := ⟨_, rfl⟩; have hy26 : y156.length = x3_1.length - (x6_2 : Int).toNat := (by rw [Ny156.out, List.length_drop] <;> omega); rw [show (x3_1).drop (x6_2 : Int).toNat = y156 from Ny156.out.symm] at hr26; replace hr26 : Kd.C (Kd.int .i64) _ A26 y156.length y156 := (by rw [hA26]; exact hr26); rw [← hy26, ← hA26, ← hc26] at hcut26; have HR159 := Aside0.mk hr26; have HC159 := Aside0.mk (show y156.length ≤ c26 from by rw [hy26, hc26]; exact Nat.sub_le_sub_right hroom26 _); clear hr26 hC26 hroom26 hi026 hsz26 hc26; have KY26 := Aside0.mk hy26; have KA26 := Aside0.mk hA26; clear hy26 hA26; have KL26 := Aside0.mk (show (x6_2 : Int).toNat ≤ x3_1.length from by omega); replace q26 := eq_true q26) | ((with_reducible refine gate_builtin (b := .append) (xs := #[.tmp 41, .tmp 44]) rfl ?_); at_builtin; refine Kd.R_append_rows (Kd.int .i64) (w0 := w) w.heap.size rfl (.tmp 41) (.tmp 44) 52 3 (.int .i64 0) 8 rfl Try.underlying52 info3 rfl (by decide) (by omega) v154 y153 y156 _ _ _ (fun k_ => some k_ ≠ (.slice (some ad144) x3_1.length co21 : Value).ownBlock) (fun _ => False) rfl rfl ?aO ?aR (fun _ _ h => h) (fun _ h => h.elim) ?aF ?aB ?aS ?aL ?_; (case aR => repeat (first | exact (by repeat (first | (with_reducible exact HR159.out) | (with_reducible refine Kd.C_alloc ?_ _) | (with_reducible refine Kd.C_drewN ?_ _) | (with_reducible refine Kd.C_drew ?_) | exact HR159.out)) | (with_reducible refine Kd.C_alloc ?_ _) | (with_reducible refine Kd.C_drewN ?_ _) | (with_reducible refine Kd.C_drew ?_))); (case aB => exact (xs HB.out)); (case aF => exact (fun k_ hk => Kd.fresh' (Kd.R_lt (xr HO_3.out)) k_ hk)); (case aO => exact (xr HO155.out)); (case aS => exact (below_size (xs HB.out))); (case aL => have := LMc20.out; omega); intro v161 w27 ho hb hg hat; rw [← Ny160.out] at ho; replace BK143 := Aside0.mk (blk_grown (g := gb143) (o := .cells #[.int .i64 ((rd_T63 l0 x10_1).f0), .int .i64 ((rd_T63 l0 x10_1).f1), .int .i64 ((rd_T63 l0 x10_1).f2)] 63 (0, 0)) (xb BK143.out) hg (Kd.R_ne HO155.out BK143.out (by decide))); replace HB := Aside0.mk (hb); replace HR149 := Aside0.mk ((show Kd.C (Kd.int .i64) w27 (some ad144) y146.length y146 from by rw [Ny146.out]; exact Kd.C_take (m := (x6_2 : Int).toNat) ((Kd.R_reads' (Kd.R_after (ok := (fun _ => True)) (xr HO_3.out) hg hat)).2.2) KL23.out)); replace HR159 := Aside0.mk ((show Kd.C (Kd.int .i64) w27 A26 y156.length y156 from by rw [Ny156.out, KA26.out]; exact Kd.C_drop (m := (x6_2 : Int).toNat) (c := co21) ((Kd.R_reads' (Kd.R_after (ok := (fun _ => True)) (xr HO_3.out) hg hat)).2.2) KL26.out ((Kd.R_reads' (Kd.R_after (ok := (fun _ => True)) (xr HO_3.out) hg hat)).2.1))); replace HO_3 := Aside0.mk (Kd.R_after (ok := (fun _ => True)) (xr HO_3.out) hg hat); have HO162 := Aside0.mk (ho); clear HO155; clear ho hb hg hat)); try go_wp2_with (first | (go_at_call 98; (with_reducible refine (spec_l1Own.calls _ _ y146 t150 _ ?side1 ?side2 A16.out).mono ?_); (case side1 => repeat (first | exact (by repeat (first | (with_reducible exact HR149.out) | (with_reducible refine Kd.C_alloc ?_ _) | (with_reducible refine Kd.C_drewN ?_ _) | (with_reducible refine Kd.C_drew ?_) | exact HR149.out)) | (with_reducible refine Kd.C_alloc ?_ _) | (with_reducible refine Kd.C_drewN ?_ _) | (with_reducible refine Kd.C_drew ?_))); (case side2 => exact HC149.out); rintro e w24 ⟨v151, rfl, ho0, hb⟩; have HO152 := Aside0.mk (Kd.R_lower (Kd.R_new' ho0 (Kd.R_lt (xr HO_3.out))) (below_size (xs HB.out))); replace HO_3 := Aside0.mk (Kd.R_elder' (xr HO_3.out) (Kd.R_base ho0) hb); replace BK143 := xk BK143 hb; replace HR149 := Aside0.mk (Kd.C_below (by repeat (first | (with_reducible exact HR149.out) | (with_reducible refine Kd.C_alloc ?_ _) | (with_reducible refine Kd.C_drewN ?_ _) | (with_reducible refine Kd.C_drew ?_) | exact HR149.out)) hb); replace HB := xp HB hb; (try clear hb); (try clear hb2); (try clear hk); (try clear hi); (try clear ho0)) | ((with_reducible refine gate_builtin (b := .append) (xs := #[.tmp 37, .tmp 39]) rfl ?_); at_builtin; refine Kd.R_append (Kd.int .i64) (w0 := w) w.heap.size rfl (.tmp 37) (.tmp 39) 52 3 (.int .i64 0) 8 rfl Try.underlying52 info3 rfl (by decide) (by omega) v151 t150 x10_1 [.int .i64 x10_1] (fun k_ => some k_ ≠ (.slice (some ad144) x3_1.length co21 : Value).ownBlock) (fun _ => False) rfl rfl ?aP (fun _ hk => hk.elim) ?aF ?aO ?aB ?aS ?aL ?_; (case aP => exact rfl); (case aB => exact (xs HB.out)); (case aF => exact (fun k_ hk => Kd.fresh' (Kd.R_lt (xr HO_3.out)) k_ hk)); (case aO => exact (xm HO152 (fun _ hk => hk.2))); (case aS => exact (below_size (xs HB.out))); (case aL => have := LMc17.out; omega); intro v154 w25 ho hb hg hat; rw [← Ny153.out] at ho; replace BK143 := Aside0.mk (blk_grown (g := gb143) (o := .cells #[.int .i64 ((rd_T63 l0 x10_1).f0), .int .i64 ((rd_T63 l0 x10_1).f1), .int .i64 ((rd_T63 l0 x10_1).f2)] 63 (0, 0)) (xb BK143.out) hg (Kd.R_ne HO152.out BK143.out (by decide))); replace HB := Aside0.mk (hb); replace HR149 := Aside0.mk ((show Kd.C (Kd.int .i64) w25 (some ad144) y146.length y146 from by rw [Ny146.out]; exact Kd.C_take (m := (x6_2 : Int).toNat) ((Kd.R_reads' (Kd.R_after (ok := (fun _ => True)) (xr HO_3.out) hg hat)).2.2) KL23.out)); replace HO_3 := Aside0.mk (Kd.R_after (ok := (fun _ => True)) (xr HO_3.out) hg hat); have HO155 := Aside0.mk (ho); clear HO152; clear ho hb hg hat; have q26 : (x6_2 : Int) ≤ ((x3_1.length : Int) : Int) := of_decide_eq_true (by first | (with_reducible assumption) | assumption); obtain ⟨i026, hi026, _, hsz26, _⟩ := info_parts info3; have hroom26 : x3_1.length ≤ co21 := (Kd.R_reads' HO_3.out).2.1; have hC26 : Kd.C (Kd.int .i64) _ (some ad144) x3_1.length x3_1 := (Kd.R_reads' HO_3.out).2.2; have q026 : (0 : Int) ≤ (x6_2 : Int) := of_decide_eq_true (by first | (with_reducible assumption) | assumption); have hcut26 := cut_from (P := Try.prog) 52 3 .i64 Try.underlying52 hi026 1 hsz26 (some ad144) x3_1.length co21 x6_2 q026 q26; have hr26 := Kd.C_drop (m := (x6_2 : Int).toNat) (c := co21) hC26 (by omega) hroom26; obtain ⟨A26, hA26⟩ : ∃ A1, A1 = (if co21 = (x6_2 : Int).toNat then (some ad144) else ((some ad144) : Option Addr).map (·.add ((x6_2 : Int).toNat * 1))) := ⟨_, rfl⟩; obtain ⟨c26, hc26⟩ : ∃ c1, c1 = co21 - (x6_2 : Int).toNat := ⟨_, rfl⟩; have hy26 : y156.length = x3_1.length - (x6_2 : Int).toNat := (by rw [Ny156.out, List.length_drop] <;> omega); rw [show (x3_1).drop (x6_2 : Int).toNat = y156 from Ny156.out.symm] at hr26; replace hr26 : Kd.C (Kd.int .i64) _ A26 y156.length y156 := (by rw [hA26]; exact hr26); rw [← hy26, ← hA26, ← hc26] at hcut26; have HR159 := Aside0.mk hr26; have HC159 := Aside0.mk (show y156.length ≤ c26 from by rw [hy26, hc26]; exact Nat.sub_le_sub_right hroom26 _); clear hr26 hC26 hroom26 hi026 hsz26 hc26; have KY26 := Aside0.mk hy26; have KA26 := Aside0.mk hA26; clear hy26 hA26; have KL26 := Aside0.mk (show (x6_2 : Int).toNat ≤ x3_1.length from by omega); replace q26 := eq_true q26) | ((with_reducible refine gate_builtin (b := .append) (xs := #[.tmp 41, .tmp 44]) rfl ?_); at_builtin; refine Kd.R_append_rows (Kd.int .i64) (w0 := w) w.heap.size rfl (.tmp 41) (.tmp 44) 52 3 (.int .i64 0) 8 rfl Try.underlying52 info3 rfl (by decide) (by omega) v154 y153 y156 _ _ _ (fun k_ => some k_ ≠ (.slice (some ad144) x3_1.length co21 : Value).ownBlock) (fun _ => False) rfl rfl ?aO ?aR (fun _ _ h => h) (fun _ h => h.elim) ?aF ?aB ?aS ?aL ?_; (case aR => repeat (first | exact (by repeat (first | (with_reducible exact HR159.out) | (with_reducible refine Kd.C_alloc ?_ _) | (with_reducible refine Kd.C_drewN ?_ _) | (with_reducible refine Kd.C_drew ?_) | exact HR159.out)) | (with_reducible refine Kd.C_alloc ?_ _) | (with_reducible refine Kd.C_drewN ?_ _) | (with_reducible refine Kd.C_drew ?_))); (case aB => exact (xs HB.out)); (case aF => exact (fun k_ hk => Kd.fresh' (Kd.R_lt (xr HO_3.out)) k_ hk)); (case aO => exact (xr HO155.out)); (case aS => exact (below_size (xs HB.out))); (case aL => have := LMc20.out; omega); intro v161 w27 ho hb hg hat; rw [← Ny160.out] at ho; replace BK143 := Aside0.mk (blk_grown (g := gb143) (o := .cells #[.int .i64 ((rd_T63 l0 x10_1).f0), .int .i64 ((rd_T63 l0 x10_1).f1), .int .i64 ((rd_T63 l0 x10_1).f2)] 63 (0, 0)) (xb BK143.out) hg (Kd.R_ne HO155.out BK143.out (by decide))); replace HB := Aside0.mk (hb); replace HR149 := Aside0.mk ((show Kd.C (Kd.int .i64) w27 (some ad144) y146.length y146 from by rw [Ny146.out]; exact Kd.C_take (m := (x6_2 : Int).toNat) ((Kd.R_reads' (Kd.R_after (ok := (fun _ => True)) (xr HO_3.out) hg hat)).2.2) KL23.out)); replace HR159 := Aside0.mk ((show Kd.C (Kd.int .i64) w27 A26 y156.length y156 from by rw [Ny156.out, KA26.out]; exact Kd.C_drop (m := (x6_2 : Int).toNat) (c := co21) ((Kd.R_reads' (Kd.R_after (ok := (fun _ => True)) (xr HO_3.out) hg hat)).2.2) KL26.out ((Kd.R_reads' (Kd.R_after (ok := (fun _ => True)) (xr HO_3.out) hg hat)).2.1))); replace HO_3 := Aside0.mk (Kd.R_after (ok := (fun _ => True)) (xr HO_3.out) hg hat); have HO162 := Aside0.mk (ho); clear HO155; clear ho hb hg hat)))
                go_roundg k2
                case measure => have := HK1.out; have := HK2.out; omega
                case rel => exact ⟨(y160), (wrap64 (x10_1 + 1)), (by first | rfl | (simp; done) | (simp [*]; done)), H', ⟨by have := HK1.out; have := HK2.out; omega⟩, ⟨xm HO162 (fun _ hk => trivial)⟩, ⟨xs HB.out⟩⟩
               ·rw [if_neg c20] at H
                exact absurd H (by simp)
              ·rw [if_neg c17] at H
               exact absurd H (by simp)
             ·rw [if_neg c15] at H
              exact absurd H (by simp)
           ·rw [if_neg c10] at H
            exact absurd H (by simp)
          ·rw [if_neg c9] at H
           exact absurd H (by simp)
         ·rw [if_neg c8] at H
          exact absurd H (by simp)
        ·rw [if_neg c7] at H
         have c7b0 : decide (x6_2 < (x3_1.length : Int)) = false := decide_eq_false c7
         clear c7
         by_cases c28 : 0 ≤ x6_2
         ·rw [if_pos c28] at H
          have c28b0 := eq_true c28
          have c28b1 : decide (0 ≤ x6_2) = true := decide_eq_true c28
          clear c28
          by_cases c29 : x6_2 ≤ (x3_1.length : Int)
          ·rw [if_pos c29] at H
           have c29b0 := eq_true c29
           have c29b1 : decide (x6_2 ≤ (x3_1.length : Int)) = true := decide_eq_true c29
           clear c29
           obtain ⟨y163, hy163⟩ : ∃ y_ : List Int, y_ = (x3_1.take (x6_2 : Int).toNat) := ⟨_, rfl⟩
           replace H : ((spec_l1Own.f y163).bind fun t167 => (if t167.length < 17592186044416 then ((some (t167 ++ [x10_1] : List Int)).bind fun y170 => ((some (x3_1.drop (x6_2 : Int).toNat : List Int)).bind fun y173 => (if y170.length + y173.length < 17592186044416 then (spec_leOrder.l0 k2 l0 (y170 ++ y173) l0 (l0.length : Int) (wrap64 (x10_1 + 1))) else (none)))) else (none))) = some r := by first | (rw [hy163]; with_reducible exact H) | (have H2_ := (Option.bind_some _ _).symm.trans H; rw [hy163]; with_reducible exact H2_) | (have H2_ := (Option.bind_some _ _).symm.trans H; with_reducible exact H2_) | with_reducible exact H | (rw [hy163]; exact H) | exact H
           have Ny163 := Aside0.mk hy163
           clear hy163
           replace H := Option.bind_eq_some_iff.mp H
           obtain ⟨t167, A300, H⟩ := H
           replace H : (if t167.length < 17592186044416 then ((some (t167 ++ [x10_1] : List Int)).bind fun y170 => ((some (x3_1.drop (x6_2 : Int).toNat : List Int)).bind fun y173 => (if y170.length + y173.length < 17592186044416 then (spec_leOrder.l0 k2 l0 (y170 ++ y173) l0 (l0.length : Int) (wrap64 (x10_1 + 1))) else (none)))) else (none)) = some r := H
           have A30 := Aside0.mk A300
           clear A300
           by_cases c31 : t167.length < 17592186044416
           ·rw [if_pos c31] at H
            have LMc31 := Aside0.mk c31
            clear c31
            obtain ⟨y170, hy170⟩ : ∃ y_ : List Int, y_ = (t167 ++ [x10_1]) := ⟨_, rfl⟩
            replace H : ((some (x3_1.drop (x6_2 : Int).toNat : List Int)).bind fun y173 => (if y170.length + y173.length < 17592186044416 then (spec_leOrder.l0 k2 l0 (y170 ++ y173) l0 (l0.length : Int) (wrap64 (x10_1 + 1))) else (none))) = some r := by first | (rw [hy170]; with_reducible exact H) | (have H2_ := (Option.bind_some _ _).symm.trans H; rw [hy170]; with_reducible exact H2_) | (have H2_ := (Option.bind_some _ _).symm.trans H; with_reducible exact H2_) | with_reducible exact H | (rw [hy170]; exact H) | exact H
            have Ny170 := Aside0.mk hy170
            clear hy170
            have c32b0 := eq_true (of_decide_eq_true (by first | (with_reducible assumption) | assumption) : 0 ≤ x6_2)
            have c33b0 := eq_true (of_decide_eq_true (by first | (with_reducible assumption) | assumption) : x6_2 ≤ (x3_1.length : Int))
            obtain ⟨y173, hy173⟩ : ∃ y_ : List Int, y_ = (x3_1.drop (x6_2 : Int).toNat) := ⟨_, rfl⟩
            replace H : (if y170.length + y173.length < 17592186044416 then (spec_leOrder.l0 k2 l0 (y170 ++ y173) l0 (l0.length : Int) (wrap64 (x10_1 + 1))) else (none)) = some r := by first | (rw [hy173]; with_reducible exact H) | (have H2_ := (Option.bind_some _ _).symm.trans H; rw [hy173]; with_reducible exact H2_) | (have H2_ := (Option.bind_some _ _).symm.trans H; with_reducible exact H2_) | with_reducible exact H | (rw [hy173]; exact H) | exact H
            have Ny173 := Aside0.mk hy173
            clear hy173
            by_cases c34 : y170.length + y173.length < 17592186044416
            ·rw [if_pos c34] at H
             have LMc34 := Aside0.mk c34
             clear c34
             obtain ⟨y177, hy177⟩ : ∃ y_ : List Int, y_ = (y170 ++ y173) := ⟨_, rfl⟩
             replace H : (spec_leOrder.l0 k2 l0 y177 l0 (l0.length : Int) (wrap64 (x10_1 + 1))) = some r := by first | (rw [hy177]; with_reducible exact H) | (have H2_ := (Option.bind_some _ _).symm.trans H; rw [hy177]; with_reducible exact H2_) | (have H2_ := (Option.bind_some _ _).symm.trans H; with_reducible exact H2_) | with_reducible exact H | (rw [hy177]; exact H) | exact H
             have Ny177 := Aside0.mk hy177
             clear hy177
             have H' := Aside0.mk H
             clear H
             obtain ⟨Ao35, co35, eo35⟩ := Kd.R_slice HO_3.out
             subst eo35
             have q36 : (x6_2 : Int) ≤ ((x3_1.length : Int) : Int) := of_decide_eq_true (by first | (with_reducible assumption) | assumption)
             obtain ⟨i036, hi036, _, hsz36, _⟩ := info_parts info3
             have hroom36 : x3_1.length ≤ co35 := (Kd.R_reads' HO_3.out).2.1
             have hC36 : Kd.C (Kd.int .i64) _ Ao35 x3_1.length x3_1 := (Kd.R_reads' HO_3.out).2.2
             have hcut36 := cut_to (P := Try.prog) 52 3 .i64 Try.underlying52 hi036 Ao35 x3_1.length co35 x6_2 (of_decide_eq_true (by first | (with_reducible assumption) | assumption)) q36 hroom36
             have hr36 := Kd.C_take (m := (x6_2 : Int).toNat) hC36 (by omega)
             have hy36 : y163.length = (x6_2 : Int).toNat := (by rw [Ny163.out, List.length_take]; omega)
             rw [← Ny163.out] at hr36
             rw [← hy36] at hcut36
             have HR166 := Aside0.mk hr36
             have HC166 := Aside0.mk (show y163.length ≤ co35 from by omega)
             clear hr36 hC36 hroom36 hi036 hsz36
             have KY36 := Aside0.mk hy36
             clear hy36
             have KL36 := Aside0.mk (show (x6_2 : Int).toNat ≤ x3_1.length from by omega)
             replace q36 := eq_true q36
             go_wp2_with (first | (go_at_call 98; (with_reducible refine (spec_l1Own.calls _ _ y163 t167 _ ?side1 ?side2 A30.out).mono ?_); (case side1 => repeat (first | exact (by repeat (first | (with_reducible exact HR166.out) | (with_reducible refine Kd.C_alloc ?_ _) | (with_reducible refine Kd.C_drewN ?_ _) | (with_reducible refine Kd.C_drew ?_) | exact HR166.out)) | (with_reducible refine Kd.C_alloc ?_ _) | (with_reducible refine Kd.C_drewN ?_ _) | (with_reducible refine Kd.C_drew ?_))); (case side2 => exact HC166.out); rintro e w37 ⟨v168, rfl, ho0, hb⟩; have HO169 := Aside0.mk (Kd.R_lower (Kd.R_new' ho0 (Kd.R_lt (xr HO_3.out))) (below_size (xs HB.out))); replace HO_3 := Aside0.mk (Kd.R_elder' (xr HO_3.out) (Kd.R_base ho0) hb); replace BK143 := xk BK143 hb; replace HR166 := Aside0.mk (Kd.C_below (by repeat (first | (with_reducible exact HR166.out) | (with_reducible refine Kd.C_alloc ?_ _) | (with_reducible refine Kd.C_drewN ?_ _) | (with_reducible refine Kd.C_drew ?_) | exact HR166.out)) hb); replace HB := xp HB hb; (try clear hb); (try clear hb2); (try clear hk); (try clear hi); (try clear ho0)) | ((with_reducible refine gate_builtin (b := .append) (xs := #[.tmp 37, .tmp 39]) rfl ?_); at_builtin; refine Kd.R_append (Kd.int .i64) (w0 := w) w.heap.size rfl (.tmp 37) (.tmp 39) 52 3 (.int .i64 0) 8 rfl Try.underlying52 info3 rfl (by decide) (by omega) v168 t167 x10_1 [.int .i64 x10_1] (fun k_ => nS k_ Ao35 x3_1.length co35) (fun _ => False) rfl rfl ?aP (fun _ hk => hk.elim) ?aF ?aO ?aB ?aS ?aL ?_; (case aP => exact rfl); (case aB => exact (xs HB.out)); (case aF => exact (fun k_ hk => Kd.fresh' (Kd.R_lt (xr HO_3.out)) k_ hk)); (case aO => exact (xm HO169 (fun _ hk => hk.2))); (case aS => exact (below_size (xs HB.out))); (case aL => have := LMc31.out; omega); intro v171 w38 ho hb hg hat; rw [← Ny170.out] at ho; replace BK143 := Aside0.mk (blk_grown (g := gb143) (o := .cells #[.int .i64 ((rd_T63 l0 x10_1).f0), .int .i64 ((rd_T63 l0 x10_1).f1), .int .i64 ((rd_T63 l0 x10_1).f2)] 63 (0, 0)) (xb BK143.out) hg (Kd.R_ne HO169.out BK143.out (by decide))); replace HB := Aside0.mk (hb); replace HR166 := Aside0.mk ((show Kd.C (Kd.int .i64) w38 Ao35 y163.length y163 from by rw [Ny163.out]; exact Kd.C_take (m := (x6_2 : Int).toNat) ((Kd.R_reads' (Kd.R_after (ok := (fun _ => True)) (xr HO_3.out) hg hat)).2.2) KL36.out)); replace HO_3 := Aside0.mk (Kd.R_after (ok := (fun _ => True)) (xr HO_3.out) hg hat); have HO172 := Aside0.mk (ho); clear HO169; clear ho hb hg hat; have q39 : (x6_2 : Int) ≤ ((x3_1.length : Int) : Int) := of_decide_eq_true (by first | (with_reducible assumption) | assumption); obtain ⟨i039, hi039, _, hsz39, _⟩ := info_parts info3; have hroom39 : x3_1.length ≤ co35 := (Kd.R_reads' HO_3.out).2.1; have hC39 : Kd.C (Kd.int .i64) _ Ao35 x3_1.length x3_1 := (Kd.R_reads' HO_3.out).2.2; have q039 : (0 : Int) ≤ (x6_2 : Int) := of_decide_eq_true (by first | (with_reducible assumption) | assumption); have hcut39 := cut_from (P := Try.prog) 52 3 .i64 Try.underlying52 hi039 1 hsz39 Ao35 x3_1.length co35 x6_2 q039 q39; have hr39 := Kd.C_drop (m := (x6_2 : Int).toNat) (c := co35) hC39 (by omega) hroom39; obtain ⟨A39, hA39⟩ : ∃ A1, A1 = (if co35 = (x6_2 : Int).toNat then Ao35 else (Ao35 : Option Addr).map (·.add ((x6_2 : Int).toNat * 1))) := ⟨_, rfl⟩; obtain ⟨c39, hc39⟩ : ∃ c1, c1 = co35 - (x6_2 : Int).toNat := ⟨_, rfl⟩; have hy39 : y173.length = x3_1.length - (x6_2 : Int).toNat := (by rw [Ny173.out, List.length_drop] <;> omega); rw [show (x3_1).drop (x6_2 : Int).toNat = y173 from Ny173.out.symm] at hr39; replace hr39 : Kd.C (Kd.int .i64) _ A39 y173.length y173 := (by rw [hA39]; exact hr39); rw [← hy39, ← hA39, ← hc39] at hcut39; have HR176 := Aside0.mk hr39; have HC176 := Aside0.mk (show y173.length ≤ c39 from by rw [hy39, hc39]; exact Nat.sub_le_sub_right hroom39 _); clear hr39 hC39 hroom39 hi039 hsz39 hc39; have KY39 := Aside0.mk hy39; have KA39 := Aside0.mk hA39; clear hy39 hA39; have KL39 := Aside0.mk (show (x6_2 : Int).toNat ≤ x3_1.length from by omega); replace q39 := eq_true q39) | ((with_reducible refine gate_builtin (b := .append) (xs := #[.tmp 41, .tmp 44]) rfl ?_); at_builtin; refine Kd.R_append_rows (Kd.int .i64) (w0 := w) w.heap.size rfl (.tmp 41) (.tmp 44) 52 3 (.int .i64 0) 8 rfl Try.underlying52 info3 rfl (by decide) (by omega) v171 y170 y173 _ _ _ (fun k_ => nS k_ Ao35 x3_1.length co35) (fun _ => False) rfl rfl ?aO ?aR (fun _ _ h => h) (fun _ h => h.elim) ?aF ?aB ?aS ?aL ?_; (case aR => repeat (first | exact (by repeat (first | (with_reducible exact HR176.out) | (with_reducible refine Kd.C_alloc ?_ _) | (with_reducible refine Kd.C_drewN ?_ _) | (with_reducible refine Kd.C_drew ?_) | exact HR176.out)) | (with_reducible refine Kd.C_alloc ?_ _) | (with_reducible refine Kd.C_drewN ?_ _) | (with_reducible refine Kd.C_drew ?_))); (case aB => exact (xs HB.out)); (case aF => exact (fun k_ hk => Kd.fresh' (Kd.R_lt (xr HO_3.out)) k_ hk)); (case aO => exact (xr HO172.out)); (case aS => exact (below_size (xs HB.out))); (case aL => have := LMc34.out; omega); intro v178 w40 ho hb hg hat; rw [← Ny177.out] at ho; replace BK143 := Aside0.mk (blk_grown (g := gb143) (o := .cells #[.int .i64 ((rd_T63 l0 x10_1).f0), .int .i64 ((rd_T63 l0 x10_1).f1), .int .i64 ((rd_T63 l0 x10_1).f2)] 63 (0, 0)) (xb BK143.out) hg (Kd.R_ne HO172.out BK143.out (by decide))); replace HB := Aside0.mk (hb); replace HR166 := Aside0.mk ((show Kd.C (Kd.int .i64) w40 Ao35 y163.length y163 from by rw [Ny163.out]; exact Kd.C_take (m := (x6_2 : Int).toNat) ((Kd.R_reads' (Kd.R_after (ok := (fun _ => True)) (xr HO_3.out) hg hat)).2.2) KL36.out)); replace HR176 := Aside0.mk ((show Kd.C (Kd.int .i64) w40 A39 y173.length y173 from by rw [Ny173.out, KA39.out]; exact Kd.C_drop (m := (x6_2 : Int).toNat) (c := co35) ((Kd.R_reads' (Kd.R_after (ok := (fun _ => True)) (xr HO_3.out) hg hat)).2.2) KL39.out ((Kd.R_reads' (Kd.R_after (ok := (fun _ => True)) (xr HO_3.out) hg hat)).2.1))); replace HO_3 := Aside0.mk (Kd.R_after (ok := (fun _ => True)) (xr HO_3.out) hg hat); have HO179 := Aside0.mk (ho); clear HO172; clear ho hb hg hat))
             repeat (go_quiet (first | (go_at_call 98; (with_reducible refine (spec_l1Own.calls _ _ y163 t167 _ ?side1 ?side2 A30.out).mono ?_); (case side1 => repeat (first | exact (by repeat (first | (with_reducible exact HR166.out) | (with_reducible refine Kd.C_alloc ?_ _) | (with_reducible refine Kd.C_drewN ?_ _) | (with_reducible refine Kd.C_drew ?_) | exact HR166.out)) | (with_reducible refine Kd.C_alloc ?_ _) | (with_reducible refine Kd.C_drewN ?_ _) | (with_reducible refine Kd.C_drew ?_))); (case side2 => exact HC166.out); rintro e w37 ⟨v168, rfl, ho0, hb⟩; have HO169 := Aside0.mk (Kd.R_lower (Kd.R_new' ho0 (Kd.R_lt (xr HO_3.out))) (below_size (xs HB.out))); replace HO_3 := Aside0.mk (Kd.R_elder' (xr HO_3.out) (Kd.R_base ho0) hb); replace BK143 := xk BK143 hb; replace HR166 := Aside0.mk (Kd.C_below (by repeat (first | (with_reducible exact HR166.out) | (with_reducible refine Kd.C_alloc ?_ _) | (with_reducible refine Kd.C_drewN ?_ _) | (with_reducible refine Kd.C_drew ?_) | exact HR166.out)) hb); replace HB := xp HB hb; (try clear hb); (try clear hb2); (try clear hk); (try clear hi); (try clear ho0)) | ((with_reducible refine gate_builtin (b := .append) (xs := #[.tmp 37, .tmp 39]) rfl ?_); at_builtin; refine Kd.R_append (Kd.int .i64) (w0 := w) w.heap.size rfl (.tmp 37) (.tmp 39) 52 3 (.int .i64 0) 8 rfl Try.underlying52 info3 rfl (by decide) (by omega) v168 t167 x10_1 [.int .i64 x10_1] (fun k_ => nS k_ Ao35 x3_1.length co35) (fun _ => False) rfl rfl ?aP (fun _ hk => hk.elim) ?aF ?aO ?aB ?aS ?aL ?_; (case aP => exact rfl); (case aB => exact (xs HB.out)); (case aF => exact (fun k_ hk => Kd.fresh' (Kd.R_lt (xr HO_3.out)) k_ hk)); (case aO => exact (xm HO169 (fun _ hk => hk.2))); (case aS => exact (below_size (xs HB.out))); (case aL => have := LMc31.out; omega); intro v171 w38 ho hb hg hat; rw [← Ny170.out] at ho; replace BK143 := Aside0.mk (blk_grown (g := gb143) (o := .cells #[.int .i64 ((rd_T63 l0 x10_1).f0), .int .i64 ((rd_T63 l0 x10_1).f1), .int .i64 ((rd_T63 l0 x10_1).f2)] 63 (0, 0)) (xb BK143.out) hg (Kd.R_ne HO169.out BK143.out (by decide))); replace HB := Aside0.mk (hb); replace HR166 := Aside0.mk ((show Kd.C (Kd.int .i64) w38 Ao35 y163.length y163 from by rw [Ny163.out]; exact Kd.C_take (m := (x6_2 : Int).toNat) ((Kd.R_reads' (Kd.R_after (ok := (fun _ => True)) (xr HO_3.out) hg hat)).2.2) KL36.out)); replace HO_3 := Aside0.mk (Kd.R_after (ok := (fun _ => True)) (xr HO_3.out) hg hat); have HO172 := Aside0.mk (ho); clear HO169; clear ho hb hg hat; have q39 : (x6_2 : Int) ≤ ((x3_1.length : Int) : Int) := of_decide_eq_true (by first | (with_reducible assumption) | assumption); obtain ⟨i039, hi039, _, hsz39, _⟩ := info_parts info3; have hroom39 : x3_1.length ≤ co35 := (Kd.R_reads' HO_3.out).2.1; have hC39 : Kd.C (Kd.int .i64) _ Ao35 x3_1.length x3_1 := (Kd.R_reads' HO_3.out).2.2; have q039 : (0 : Int) ≤ (x6_2 : Int) := of_decide_eq_true (by first | (with_reducible assumption) | assumption); have hcut39 := cut_from (P := Try.prog) 52 3 .i64 Try.underlying52 hi039 1 hsz39 Ao35 x3_1.length co35 x6_2 q039 q39; have hr39 := Kd.C_drop (m := (x6_2 : Int).toNat) (c := co35) hC39 (by omega) hroom39; obtain ⟨A39, hA39⟩ : ∃ A1, A1 = (if co35 = (x6_2 : Int).toNat then Ao35 else (Ao35 : Option Addr).map (·.add ((x6_2 : Int).toNat * 1))) := ⟨_, rfl⟩; obtain ⟨c39, hc39⟩ : ∃ c1, c1 = co35 - (x6_2 : Int).toNat := ⟨_, rfl⟩; have hy39 : y173.length = x3_1.length - (x6_2 : Int).toNat := (by rw [Ny173.out, List.length_drop] <;> omega); rw [show (x3_1).drop (x6_2 : Int).toNat = y173 from Ny173.out.symm] at hr39; replace hr39 : Kd.C (Kd.int .i64) _ A39 y173.length y173 := (by rw [hA39]; exact hr39); rw [← hy39, ← hA39, ← hc39] at hcut39; have HR176 := Aside0.mk hr39; have HC176 := Aside0.mk (show y173.length ≤ c39 from by rw [hy39, hc39]; exact Nat.sub_le_sub_right hroom39 _); clear hr39 hC39 hroom39 hi039 hsz39 hc39; have KY39 := Aside0.mk hy39; have KA39 := Aside0.mk hA39; clear hy39 hA39; have KL39 := Aside0.mk (show (x6_2 : Int).toNat ≤ x3_1.length from by omega); replace q39 := eq_true q39) | ((with_reducible refine gate_builtin (b := .append) (xs := #[.tmp 41, .tmp 44]) rfl ?_); at_builtin; refine Kd.R_append_rows (Kd.int .i64) (w0 := w) w.heap.size rfl (.tmp 41) (.tmp 44) 52 3 (.int .i64 0) 8 rfl Try.underlying52 info3 rfl (by decide) (by omega) v171 y170 y173 _ _ _ (fun k_ => nS k_ Ao35 x3_1.length co35) (fun _ => False) rfl rfl ?aO ?aR (fun _ _ h => h) (fun _ h => h.elim) ?aF ?aB ?aS ?aL ?_; (case aR => repeat (first | exact (by repeat (first | (with_reducible exact HR176.out) | (with_reducible refine Kd.C_alloc ?_ _) | (with_reducible refine Kd.C_drewN ?_ _) | (with_reducible refine Kd.C_drew ?_) | exact HR176.out)) | (with_reducible refine Kd.C_alloc ?_ _) | (with_reducible refine Kd.C_drewN ?_ _) | (with_reducible refine Kd.C_drew ?_))); (case aB => exact (xs HB.out)); (case aF => exact (fun k_ hk => Kd.fresh' (Kd.R_lt (xr HO_3.out)) k_ hk)); (case aO => exact (xr HO172.out)); (case aS => exact (below_size (xs HB.out))); (case aL => have := LMc34.out; omega); intro v178 w40 ho hb hg hat; rw [← Ny177.out] at ho; replace BK143 := Aside0.mk (blk_grown (g := gb143) (o := .cells #[.int .i64 ((rd_T63 l0 x10_1).f0), .int .i64 ((rd_T63 l0 x10_1).f1), .int .i64 ((rd_T63 l0 x10_1).f2)] 63 (0, 0)) (xb BK143.out) hg (Kd.R_ne HO172.out BK143.out (by decide))); replace HB := Aside0.mk (hb); replace HR166 := Aside0.mk ((show Kd.C (Kd.int .i64) w40 Ao35 y163.length y163 from by rw [Ny163.out]; exact Kd.C_take (m := (x6_2 : Int).toNat) ((Kd.R_reads' (Kd.R_after (ok := (fun _ => True)) (xr HO_3.out) hg hat)).2.2) KL36.out)); replace HR176 := Aside0.mk ((show Kd.C (Kd.int .i64) w40 A39 y173.length y173 from by rw [Ny173.out, KA39.out]; exact Kd.C_drop (m := (x6_2 : Int).toNat) (c := co35) ((Kd.R_reads' (Kd.R_after (ok := (fun _ => True)) (xr HO_3.out) hg hat)).2.2) KL39.out ((Kd.R_reads' (Kd.R_after (ok := (fun _ => True)) (xr HO_3.out) hg hat)).2.1))); replace HO_3 := Aside0.mk (Kd.R_after (ok := (fun _ => True)) (xr HO_3.out) hg hat); have HO179 := Aside0.mk (ho); clear HO172; clear ho hb hg hat)); try go_wp2_with (first | (go_at_call 98; (with_reducible refine (spec_l1Own.calls _ _ y163 t167 _ ?side1 ?side2 A30.out).mono ?_); (case side1 => repeat (first | exact (by repeat (first | (with_reducible exact HR166.out) | (with_reducible refine Kd.C_alloc ?_ _) | (with_reducible refine Kd.C_drewN ?_ _) | (with_reducible refine Kd.C_drew ?_) | exact HR166.out)) | (with_reducible refine Kd.C_alloc ?_ _) | (with_reducible refine Kd.C_drewN ?_ _) | (with_reducible refine Kd.C_drew ?_))); (case side2 => exact HC166.out); rintro e w37 ⟨v168, rfl, ho0, hb⟩; have HO169 := Aside0.mk (Kd.R_lower (Kd.R_new' ho0 (Kd.R_lt (xr HO_3.out))) (below_size (xs HB.out))); replace HO_3 := Aside0.mk (Kd.R_elder' (xr HO_3.out) (Kd.R_base ho0) hb); replace BK143 := xk BK143 hb; replace HR166 := Aside0.mk (Kd.C_below (by repeat (first | (with_reducible exact HR166.out) | (with_reducible refine Kd.C_alloc ?_ _) | (with_reducible refine Kd.C_drewN ?_ _) | (with_reducible refine Kd.C_drew ?_) | exact HR166.out)) hb); replace HB := xp HB hb; (try clear hb); (try clear hb2); (try clear hk); (try clear hi); (try clear ho0)) | ((with_reducible refine gate_builtin (b := .append) (xs := #[.tmp 37, .tmp 39]) rfl ?_); at_builtin; refine Kd.R_append (Kd.int .i64) (w0 := w) w.heap.size rfl (.tmp 37) (.tmp 39) 52 3 (.int .i64 0) 8 rfl Try.underlying52 info3 rfl (by decide) (by omega) v168 t167 x10_1 [.int .i64 x10_1] (fun k_ => nS k_ Ao35 x3_1.length co35) (fun _ => False) rfl rfl ?aP (fun _ hk => hk.elim) ?aF ?aO ?aB ?aS ?aL ?_; (case aP => exact rfl); (case aB => exact (xs HB.out)); (case aF => exact (fun k_ hk => Kd.fresh' (Kd.R_lt (xr HO_3.out)) k_ hk)); (case aO => exact (xm HO169 (fun _ hk => hk.2))); (case aS => exact (below_size (xs HB.out))); (case aL => have := LMc31.out; omega); intro v171 w38 ho hb hg hat; rw [← Ny170.out] at ho; replace BK143 := Aside0.mk (blk_grown (g := gb143) (o := .cells #[.int .i64 ((rd_T63 l0 x10_1).f0), .int .i64 ((rd_T63 l0 x10_1).f1), .int .i64 ((rd_T63 l0 x10_1).f2)] 63 (0, 0)) (xb BK143.out) hg (Kd.R_ne HO169.out BK143.out (by decide))); replace HB := Aside0.mk (hb); replace HR166 := Aside0.mk ((show Kd.C (Kd.int .i64) w38 Ao35 y163.length y163 from by rw [Ny163.out]; exact Kd.C_take (m := (x6_2 : Int).toNat) ((Kd.R_reads' (Kd.R_after (ok := (fun _ => True)) (xr HO_3.out) hg hat)).2.2) KL36.out)); replace HO_3 := Aside0.mk (Kd.R_after (ok := (fun _ => True)) (xr HO_3.out) hg hat); have HO172 := Aside0.mk (ho); clear HO169; clear ho hb hg hat; have q39 : (x6_2 : Int) ≤ ((x3_1.length : Int) : Int) := of_decide_eq_true (by first | (with_reducible assumption) | assumption); obtain ⟨i039, hi039, _, hsz39, _⟩ := info_parts info3; have hroom39 : x3_1.length ≤ co35 := (Kd.R_reads' HO_3.out).2.1; have hC39 : Kd.C (Kd.int .i64) _ Ao35 x3_1.length x3_1 := (Kd.R_reads' HO_3.out).2.2; have q039 : (0 : Int) ≤ (x6_2 : Int) := of_decide_eq_true (by first | (with_reducible assumption) | assumption); have hcut39 := cut_from (P := Try.prog) 52 3 .i64 Try.underlying52 hi039 1 hsz39 Ao35 x3_1.length co35 x6_2 q039 q39; have hr39 := Kd.C_drop (m := (x6_2 : Int).toNat) (c := co35) hC39 (by omega) hroom39; obtain ⟨A39, hA39⟩ : ∃ A1, A1 = (if co35 = (x6_2 : Int).toNat then Ao35 else (Ao35 : Option Addr).map (·.add ((x6_2 : Int).toNat * 1))) := ⟨_, rfl⟩; obtain ⟨c39, hc39⟩ : ∃ c1, c1 = co35 - (x6_2 : Int).toNat := ⟨_, rfl⟩; have hy39 : y173.length = x3_1.length - (x6_2 : Int).toNat := (by rw [Ny173.out, List.length_drop] <;> omega); rw [show (x3_1).drop (x6_2 : Int).toNat = y173 from Ny173.out.symm] at hr39; replace hr39 : Kd.C (Kd.int .i64) _ A39 y173.length y173 := (by rw [hA39]; exact hr39); rw [← hy39, ← hA39, ← hc39] at hcut39; have HR176 := Aside0.mk hr39; have HC176 := Aside0.mk (show y173.length ≤ c39 from by rw [hy39, hc39]; exact Nat.sub_le_sub_right hroom39 _); clear hr39 hC39 hroom39 hi039 hsz39 hc39; have KY39 := Aside0.mk hy39; have KA39 := Aside0.mk hA39; clear hy39 hA39; have KL39 := Aside0.mk (show (x6_2 : Int).toNat ≤ x3_1.length from by omega); replace q39 := eq_true q39) | ((with_reducible refine gate_builtin (b := .append) (xs := #[.tmp 41, .tmp 44]) rfl ?_); at_builtin; refine Kd.R_append_rows (Kd.int .i64) (w0 := w) w.heap.size rfl (.tmp 41) (.tmp 44) 52 3 (.int .i64 0) 8 rfl Try.underlying52 info3 rfl (by decide) (by omega) v171 y170 y173 _ _ _ (fun k_ => nS k_ Ao35 x3_1.length co35) (fun _ => False) rfl rfl ?aO ?aR (fun _ _ h => h) (fun _ h => h.elim) ?aF ?aB ?aS ?aL ?_; (case aR => repeat (first | exact (by repeat (first | (with_reducible exact HR176.out) | (with_reducible refine Kd.C_alloc ?_ _) | (with_reducible refine Kd.C_drewN ?_ _) | (with_reducible refine Kd.C_drew ?_) | exact HR176.out)) | (with_reducible refine Kd.C_alloc ?_ _) | (with_reducible refine Kd.C_drewN ?_ _) | (with_reducible refine Kd.C_drew ?_))); (case aB => exact (xs HB.out)); (case aF => exact (fun k_ hk => Kd.fresh' (Kd.R_lt (xr HO_3.out)) k_ hk)); (case aO => exact (xr HO172.out)); (case aS => exact (below_size (xs HB.out))); (case aL => have := LMc34.out; omega); intro v178 w40 ho hb hg hat; rw [← Ny177.out] at ho; replace BK143 := Aside0.mk (blk_grown (g := gb143) (o := .cells #[.int .i64 ((rd_T63 l0 x10_1).f0), .int .i64 ((rd_T63 l0 x10_1).f1), .int .i64 ((rd_T63 l0 x10_1).f2)] 63 (0, 0)) (xb BK143.out) hg (Kd.R_ne HO172.out BK143.out (by decide))); replace HB := Aside0.mk (hb); replace HR166 := Aside0.mk ((show Kd.C (Kd.int .i64) w40 Ao35 y163.length y163 from by rw [Ny163.out]; exact Kd.C_take (m := (x6_2 : Int).toNat) ((Kd.R_reads' (Kd.R_after (ok := (fun _ => True)) (xr HO_3.out) hg hat)).2.2) KL36.out)); replace HR176 := Aside0.mk ((show Kd.C (Kd.int .i64) w40 A39 y173.length y173 from by rw [Ny173.out, KA39.out]; exact Kd.C_drop (m := (x6_2 : Int).toNat) (c := co35) ((Kd.R_reads' (Kd.R_after (ok := (fun _ => True)) (xr HO_3.out) hg hat)).2.2) KL39.out ((Kd.R_reads' (Kd.R_after (ok := (fun _ => True)) (xr HO_3.out) hg hat)).2.1))); replace HO_3 := Aside0.mk (Kd.R_after (ok := (fun _ => True)) (xr HO_3.out) hg hat); have HO179 := Aside0.mk (ho); clear HO172; clear ho hb hg hat)))
             go_roundg k2
             case measure => have := HK1.out; have := HK2.out; omega
             case rel => exact ⟨(y177), (wrap64 (x10_1 + 1)), (by first | rfl | (simp; done) | (simp [*]; done)), H', ⟨by have := HK1.out; have := HK2.out; omega⟩, ⟨xm HO179 (fun _ hk => trivial)⟩, ⟨xs HB.out⟩⟩
            ·rw [if_neg c34] at H
             exact absurd H (by simp)
           ·rw [if_neg c31] at H
            exact absurd H (by simp)
          ·rw [if_neg c29] at H
           exact absurd H (by simp)
         ·rw [if_neg c28] at H
          exact absurd H (by simp)
     ·rw [if_neg c4] at H
      exact absurd H (by simp)
    ·rw [if_neg c3] at H
     exact absurd H (by simp)
   ·rw [if_neg c2] at H
    have c2b0 : decide (x10_1 < (l0.length : Int)) = false := decide_eq_false c2
    clear c2
    obtain rfl := Option.some.inj H
    go_wp2
    repeat (go_quiet (fail); try go_wp2)
    go_ret
    exact ⟨_, by first | rfl | (simp [errW_none, errW_some] <;> rfl) | (simp [*, errW_none, errW_some] <;> rfl), by (with_reducible repeat (first | apply Kd.R_alloc | apply Kd.R_drewN | apply Kd.R_drew)); exact HO_3.out, by repeat (first | (with_reducible first | exact HB.out | apply below_alloc | apply pw_below_drewN | apply below_drew1) | exact HB.out)⟩

end Go.Proofs.Ytedkbaadbnpkoaa.PFnExactWaterForLevel

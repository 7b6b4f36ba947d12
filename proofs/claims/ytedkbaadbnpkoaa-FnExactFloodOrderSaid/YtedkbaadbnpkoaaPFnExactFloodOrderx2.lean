/- Lean functions of the Go functions that the law FnExactFloodOrder reaches, and the proofs that the calls come to what they say (made by program). -/
import Derived.Test.YtedkbaadbnpkoaaAb
import Derived.Test.YtedkbaadbnpkoaaPFnExactFloodOrderx0
import Derived.Test.YtedkbaadbnpkoaaPFnExactFloodOrderx1
namespace Go.Proofs.Ytedkbaadbnpkoaa.PFnExactFloodOrder
open Go.RowKit Go.Proofs.YtedkbaadbnpkoaaW.PrintWords Go.Proofs.YtedkbaadbnpkoaaW.PrintLast Go.Proofs.YtedkbaadbnpkoaaW.PrintMore Go.Proofs.Ytedkbaadbnpkoaa.Ab
attribute [local go_sem] max2_int min2_int max_two min_two max_three min_three max_four min_four   -- for this text's walks alone
set_option linter.unusedVariables false
set_option linter.unusedSimpArgs false

/-! ### spec_leTanks: function 50 -/
def spec_leTanks.l0 : Nat → List (S63) → Int → Int → Option (Bool)
  | 0, _, _, _ => none
  | k + 1, x9, x10, x11 => if x11 < x10 then (if 0 ≤ x11 then (if x11 < (x9.length : Int) then ((spec_leTank.f ((rd_T63 x9 x11).f0) ((rd_T63 x9 x11).f1) ((rd_T63 x9 x11).f2)).bind fun t127 => (if t127 = true then (spec_leTanks.l0 k x9 x10 (wrap64 (x11 + 1))) else (some false))) else (none)) else (none)) else (some true)
def spec_leTanks.f (k : Nat) (l0 : List (S63)) : Option (Bool) := (spec_l1In.f (l0.length : Int) 1 6).bind fun t124 => (if t124 = true then (spec_leTanks.l0 k l0 (l0.length : Int) 0) else (some false))
theorem spec_leTanks.mono_l : ∀ k, (∀ y0 y1 y2, LeO (spec_leTanks.l0 k y0 y1 y2) (spec_leTanks.l0 (k + 1) y0 y1 y2))
 | 0 => fun _ _ _ r h => by simp [spec_leTanks.l0] at h
 | k + 1 => by
  have ih0 := spec_leTanks.mono_l k
  ·intro y0 y1 y2
   unfold spec_leTanks.l0
   repeat' first
   | (with_reducible exact ih0 _ _ _)
   | (with_reducible exact LeO.refl _)
   | (with_reducible exact LeO.none _)
   | (with_reducible refine LeO.ite ?_ ?_)
   | (with_reducible refine LeO.bind ?_ (fun _ => ?_))
   | exact ih0 _ _ _
   | exact LeO.none _
   | refine LeO.ite ?_ ?_
   | refine LeO.bind ?_ (fun _ => ?_)
theorem spec_leTanks.mono : ∀ a0 k, LeO (spec_leTanks.f k a0) (spec_leTanks.f (k + 1) a0) := by
 intro a0 k
 have ih0 := spec_leTanks.mono_l k
 unfold spec_leTanks.f
 repeat' first
   | (with_reducible exact ih0 _ _ _)
   | (with_reducible exact LeO.refl _)
   | (with_reducible exact LeO.none _)
   | (with_reducible refine LeO.ite ?_ ?_)
   | (with_reducible refine LeO.bind ?_ (fun _ => ?_))
   | exact ih0 _ _ _
   | exact LeO.none _
   | refine LeO.ite ?_ ?_
   | refine LeO.bind ?_ (fun _ => ?_)
set_option maxHeartbeats 8000000 in
set_option maxRecDepth 100000 in
theorem spec_leTanks.calls (k : Nat) (A0 : Option Addr) (c0 : Nat) (l0 : List (S63)) (r : Bool) (w : World) (hr0 : Kd.C k63 w A0 l0.length l0) (hc0 : l0.length ≤ c0) (h : spec_leTanks.f k l0 = some r) :
  Calls Try.prog 50 #[.slice A0 l0.length c0] w fun e w' => e = .returned (.bool r) ∧ Below w.heap.size w w' := by
 have hu63 := Try.underlying63
 have HR0 := Aside0.mk hr0
 have HC0 := Aside0.mk hc0
 clear hr0 hc0
 have HB := Aside0.mk (Below.refl w.heap.size w)
 have H : ((spec_l1In.f (l0.length : Int) 1 6).bind fun t124 => (if t124 = true then (spec_leTanks.l0 k l0 (l0.length : Int) 0) else (some false))) = some r := h
 clear h
 replace H := Option.bind_eq_some_iff.mp H
 obtain ⟨t124, A20, H⟩ := H
 replace H : (if t124 = true then (spec_leTanks.l0 k l0 (l0.length : Int) 0) else (some false)) = some r := H
 have A2 := Aside0.mk A20
 clear A20
 by_cases c3 : t124 = true
 ·subst c3
  have H1 : (spec_leTanks.l0 k l0 (l0.length : Int) 0) = some r := by rw [if_pos rfl] at H; exact H
  clear H
  have H := H1
  clear H1
  have H' := Aside0.mk H
  clear H
  go_enter Try.func50, Try.ntmps50
  go_wp2_with (first | ((with_reducible refine gate_callee (f := 82) rfl ?_); refine goesL_ (some 7) rfl rfl Try.func82 (by kernel_rfl) rfl #[.int .i64 (l0.length : Int), .int .i64 1, .int .i64 6] rfl (by (try simp only [List.map_toArray, List.map_cons, List.map_nil]); first | done | rfl | (simp only [List.length_drop, List.length_take]; rfl)) ?_; (with_reducible refine (spec_l1In.calls (l0.length : Int) 1 6 true _ A2.out).mono ?_); rintro e w' ⟨rfl, ⟨nd, rfl⟩⟩; refine ⟨_, rfl, ?_⟩))
  go_loopg [11] k (fun kq v11 w' => ∃ (x11_1 : Int), v11 = .int .i64 x11_1 ∧ Aside0 (spec_leTanks.l0 kq l0 (l0.length : Int) x11_1 = some r) ∧ Aside0 (kq ≤ k) ∧ Aside0 (Below w.heap.size w w'))
  case atStart => exact ⟨(0), (by first | rfl | (simp; done) | (simp [*]; done)), H', ⟨Nat.le_refl _⟩, ⟨xs HB.out⟩⟩
  case round =>
   clear H'
   try clear p2
   try clear c3
   obtain ⟨x11_1, rfl, HA, HK1, HB⟩ := hrel
   cases gk with
   | zero => exact absurd HA.out (by simp [spec_leTanks.l0])
   | succ k1 =>
    have H := HA.out
    clear HA
    simp only [spec_leTanks.l0] at H
    by_cases c4 : x11_1 < (l0.length : Int)
    ·rw [if_pos c4] at H
     have c4b0 : decide (x11_1 < (l0.length : Int)) = true := decide_eq_true c4
     clear c4
     by_cases c5 : 0 ≤ x11_1
     ·rw [if_pos c5] at H
      have c5b0 : decide (0 ≤ x11_1) = true := decide_eq_true c5
      clear c5
      by_cases c6 : x11_1 < (l0.length : Int)
      ·rw [if_pos c6] at H
       have c6b0 : decide (x11_1 < (l0.length : Int)) = true := decide_eq_true c6
       clear c6
       replace H := Option.bind_eq_some_iff.mp H
       obtain ⟨t127, A70, H⟩ := H
       replace H : (if t127 = true then (spec_leTanks.l0 k1 l0 (l0.length : Int) (wrap64 (x11_1 + 1))) else (some false)) = some r := H
       have A7 := Aside0.mk A70
       clear A70
       by_cases c8 : t127 = true
       ·subst c8
        have H1 : (spec_leTanks.l0 k1 l0 (l0.length : Int) (wrap64 (x11_1 + 1))) = some r := by rw [if_pos rfl] at H; exact H
        clear H
        have H := H1
        clear H1
        have H' := Aside0.mk H
        clear H
        have p125 : 0 ≤ (x11_1 : Int) := of_decide_eq_true (by first | (with_reducible assumption) | assumption)
        have q125 : x11_1 < (l0.length : Int) := of_decide_eq_true (by first | (with_reducible assumption) | assumption)
        obtain ⟨ad125, e125, hx125_0, hx125_1, hx125_2⟩ := at_T63 HR0.out x11_1 p125 q125
        cases e125
        replace hx125_0 := (HB.out.cell (World.block_lt_of_cell? w _ hx125_0)).trans hx125_0
        replace hx125_1 := (HB.out.cell (World.block_lt_of_cell? w _ hx125_1)).trans hx125_1
        replace hx125_2 := (HB.out.cell (World.block_lt_of_cell? w _ hx125_2)).trans hx125_2
        replace p125 := eq_true p125
        replace q125 := eq_true q125
        go_wp2_with (first | ((with_reducible refine gate_dst (N := 4) rfl ?_); refine box_event ?hg (N := 4) ?hd (cs := #[.int .i64 0, .int .i64 0, .int .i64 0]) (t := 63) ?hr ?_; (case hd => rfl); (case hg => rfl); (case hr => first | (go_simp; done) | (go_simp; rfl)); intro gb126 hg w9 hbox hb; have BK126 := Aside0.mk (hbox); have GW126 := xg HB hg; have GE126 := xg HB hg; replace HB := xp HB hb; clear hb hbox hg; have hcz10_0 : w9.cell? ⟨gb126, 0, none⟩ = some (.int .i64 0) := (blk_cell BK126.out 0).trans rfl; have hcz10_1 : w9.cell? ⟨gb126, 1, none⟩ = some (.int .i64 0) := (blk_cell BK126.out 1).trans rfl; have hcz10_2 : w9.cell? ⟨gb126, 2, none⟩ = some (.int .i64 0) := (blk_cell BK126.out 2).trans rfl; have hfz10_0 := blk_frozen BK126.out 0; have hfz10_1 := blk_frozen BK126.out 1; have hfz10_2 := blk_frozen BK126.out 2) | ((with_reducible refine gate_callee (f := 84) rfl ?_); refine goesL_ (some 16) rfl rfl Try.func84 (by kernel_rfl) rfl #[.agg #[.int .i64 ((rd_T63 l0 x11_1).f0), .int .i64 ((rd_T63 l0 x11_1).f1), .int .i64 ((rd_T63 l0 x11_1).f2)]] rfl (by (try simp only [List.map_toArray, List.map_cons, List.map_nil]); first | done | rfl | (simp only [List.length_drop, List.length_take]; rfl)) ?_; (with_reducible refine (spec_leTank.calls ((rd_T63 l0 x11_1).f0) ((rd_T63 l0 x11_1).f1) ((rd_T63 l0 x11_1).f2) true _ A7.out).mono ?_); rintro e w11 ⟨rfl, hb⟩; refine ⟨_, rfl, ?_⟩; replace BK126 := Aside0.mk (blk_below (g := gb126) (o := .cells #[.int .i64 ((rd_T63 l0 x11_1).f0), .int .i64 ((rd_T63 l0 x11_1).f1), .int .i64 ((rd_T63 l0 x11_1).f2)] 63 (0, 0)) (by (with_reducible repeat (first | refine blk_drewN ?_ _ | refine blk_drew ?_ | refine blk_alloc ?_ _)); refine blk_put (cs := #[.int .i64 ((rd_T63 l0 x11_1).f0), .int .i64 ((rd_T63 l0 x11_1).f1), .int .i64 0]) ?_ 2 _ rfl; (with_reducible repeat (first | refine blk_drewN ?_ _ | refine blk_drew ?_ | refine blk_alloc ?_ _)); refine blk_put (cs := #[.int .i64 ((rd_T63 l0 x11_1).f0), .int .i64 0, .int .i64 0]) ?_ 1 _ rfl; (with_reducible repeat (first | refine blk_drewN ?_ _ | refine blk_drew ?_ | refine blk_alloc ?_ _)); refine blk_put (cs := #[.int .i64 0, .int .i64 0, .int .i64 0]) ?_ 0 _ rfl; (with_reducible repeat (first | refine blk_drewN ?_ _ | refine blk_drew ?_ | refine blk_alloc ?_ _)); exact BK126.out) hb); replace HB := xp HB hb; (try clear hb); (try clear hb2); (try clear hk); (try clear hi)))
        go_roundg k1
        case measure => have := HK1.out; omega
        case rel => exact ⟨(wrap64 (x11_1 + 1)), (by first | rfl | (simp; done) | (simp [*]; done)), H', ⟨by have := HK1.out; omega⟩, ⟨xs HB.out⟩⟩
       ·replace c8 := Bool.eq_false_iff.mpr c8
        subst c8
        have H1 : (some false) = some r := by rw [if_neg (show ¬ (false = true) by decide)] at H; exact H
        clear H
        have H := H1
        clear H1
        obtain rfl := Option.some.inj H
        have p125 : 0 ≤ (x11_1 : Int) := of_decide_eq_true (by first | (with_reducible assumption) | assumption)
        have q125 : x11_1 < (l0.length : Int) := of_decide_eq_true (by first | (with_reducible assumption) | assumption)
        obtain ⟨ad125, e125, hx125_0, hx125_1, hx125_2⟩ := at_T63 HR0.out x11_1 p125 q125
        cases e125
        replace hx125_0 := (HB.out.cell (World.block_lt_of_cell? w _ hx125_0)).trans hx125_0
        replace hx125_1 := (HB.out.cell (World.block_lt_of_cell? w _ hx125_1)).trans hx125_1
        replace hx125_2 := (HB.out.cell (World.block_lt_of_cell? w _ hx125_2)).trans hx125_2
        replace p125 := eq_true p125
        replace q125 := eq_true q125
        go_wp2_with (first | ((with_reducible refine gate_dst (N := 4) rfl ?_); refine box_event ?hg (N := 4) ?hd (cs := #[.int .i64 0, .int .i64 0, .int .i64 0]) (t := 63) ?hr ?_; (case hd => rfl); (case hg => rfl); (case hr => first | (go_simp; done) | (go_simp; rfl)); intro gb126 hg w12 hbox hb; have BK126 := Aside0.mk (hbox); have GW126 := xg HB hg; have GE126 := xg HB hg; replace HB := xp HB hb; clear hb hbox hg; have hcz13_0 : w12.cell? ⟨gb126, 0, none⟩ = some (.int .i64 0) := (blk_cell BK126.out 0).trans rfl; have hcz13_1 : w12.cell? ⟨gb126, 1, none⟩ = some (.int .i64 0) := (blk_cell BK126.out 1).trans rfl; have hcz13_2 : w12.cell? ⟨gb126, 2, none⟩ = some (.int .i64 0) := (blk_cell BK126.out 2).trans rfl; have hfz13_0 := blk_frozen BK126.out 0; have hfz13_1 := blk_frozen BK126.out 1; have hfz13_2 := blk_frozen BK126.out 2) | ((with_reducible refine gate_callee (f := 84) rfl ?_); refine goesL_ (some 16) rfl rfl Try.func84 (by kernel_rfl) rfl #[.agg #[.int .i64 ((rd_T63 l0 x11_1).f0), .int .i64 ((rd_T63 l0 x11_1).f1), .int .i64 ((rd_T63 l0 x11_1).f2)]] rfl (by (try simp only [List.map_toArray, List.map_cons, List.map_nil]); first | done | rfl | (simp only [List.length_drop, List.length_take]; rfl)) ?_; (with_reducible refine (spec_leTank.calls ((rd_T63 l0 x11_1).f0) ((rd_T63 l0 x11_1).f1) ((rd_T63 l0 x11_1).f2) false _ A7.out).mono ?_); rintro e w14 ⟨rfl, hb⟩; refine ⟨_, rfl, ?_⟩; replace BK126 := Aside0.mk (blk_below (g := gb126) (o := .cells #[.int .i64 ((rd_T63 l0 x11_1).f0), .int .i64 ((rd_T63 l0 x11_1).f1), .int .i64 ((rd_T63 l0 x11_1).f2)] 63 (0, 0)) (by (with_reducible repeat (first | refine blk_drewN ?_ _ | refine blk_drew ?_ | refine blk_alloc ?_ _)); refine blk_put (cs := #[.int .i64 ((rd_T63 l0 x11_1).f0), .int .i64 ((rd_T63 l0 x11_1).f1), .int .i64 0]) ?_ 2 _ rfl; (with_reducible repeat (first | refine blk_drewN ?_ _ | refine blk_drew ?_ | refine blk_alloc ?_ _)); refine blk_put (cs := #[.int .i64 ((rd_T63 l0 x11_1).f0), .int .i64 0, .int .i64 0]) ?_ 1 _ rfl; (with_reducible repeat (first | refine blk_drewN ?_ _ | refine blk_drew ?_ | refine blk_alloc ?_ _)); refine blk_put (cs := #[.int .i64 0, .int .i64 0, .int .i64 0]) ?_ 0 _ rfl; (with_reducible repeat (first | refine blk_drewN ?_ _ | refine blk_drew ?_ | refine blk_alloc ?_ _)); exact BK126.out) hb); replace HB := xp HB hb; (try clear hb); (try clear hb2); (try clear hk); (try clear hi)))
        go_ret
        exact ⟨by first | rfl | (simp [errW_none, errW_some] <;> rfl) | (simp [*, errW_none, errW_some] <;> rfl), by repeat (first | (with_reducible first | exact HB.out | apply below_alloc | apply pw_below_drewN | apply below_drew1 | refine below_set ?_ GE126.out) | exact HB.out)⟩
      ·rw [if_neg c6] at H
       exact absurd H (by simp)
     ·rw [if_neg c5] at H
      exact absurd H (by simp)
    ·rw [if_neg c4] at H
     have c4b0 : decide (x11_1 < (l0.length : Int)) = false := decide_eq_false c4
     clear c4
     obtain rfl := Option.some.inj H
     go_wp2
     go_ret
     exact ⟨by first | rfl | (simp [errW_none, errW_some] <;> rfl) | (simp [*, errW_none, errW_some] <;> rfl), by repeat (first | (with_reducible first | exact HB.out | apply below_alloc | apply pw_below_drewN | apply below_drew1) | exact HB.out)⟩
 ·replace c3 := Bool.eq_false_iff.mpr c3
  subst c3
  have H1 : (some false) = some r := by rw [if_neg (show ¬ (false = true) by decide)] at H; exact H
  clear H
  have H := H1
  clear H1
  obtain rfl := Option.some.inj H
  go_enter Try.func50, Try.ntmps50
  go_wp2_with (first | ((with_reducible refine gate_callee (f := 82) rfl ?_); refine goesL_ (some 7) rfl rfl Try.func82 (by kernel_rfl) rfl #[.int .i64 (l0.length : Int), .int .i64 1, .int .i64 6] rfl (by (try simp only [List.map_toArray, List.map_cons, List.map_nil]); first | done | rfl | (simp only [List.length_drop, List.length_take]; rfl)) ?_; (with_reducible refine (spec_l1In.calls (l0.length : Int) 1 6 false _ A2.out).mono ?_); rintro e w' ⟨rfl, ⟨nd, rfl⟩⟩; refine ⟨_, rfl, ?_⟩))
  go_ret
  exact ⟨by first | rfl | (simp [errW_none, errW_some] <;> rfl) | (simp [*, errW_none, errW_some] <;> rfl), by repeat (first | (with_reducible first | exact HB.out | apply below_alloc | apply pw_below_drewN | apply below_drew1) | exact HB.out)⟩

/-! ### spec_l1Own: function 98 -/
def spec_l1Own.f (l0 : List Int) : Option (List Int) := (some (([] : List Int) : List Int)).bind fun y128 => (if y128.length + l0.length < 17592186044416 then (some (y128 ++ l0)) else (none))
set_option maxHeartbeats 8000000 in
set_option maxRecDepth 100000 in
theorem spec_l1Own.calls (A0 : Option Addr) (c0 : Nat) (l0 : List Int) (r : List Int) (w : World) (hr0 : Kd.C (Kd.int .i64) w A0 l0.length l0) (hc0 : l0.length ≤ c0) (h : spec_l1Own.f l0 = some r) :
  Calls Try.prog 98 #[.slice A0 l0.length c0] w fun e w' => ∃ v0_ : Value, e = .returned (v0_) ∧ Kd.R (Kd.int .i64) 3 w' w.heap.size (fun _ => True) v0_ r ∧ Below w.heap.size w w' := by
 have HR0 := Aside0.mk hr0
 have HC0 := Aside0.mk hc0
 clear hr0 hc0
 have HB := Aside0.mk (Below.refl w.heap.size w)
 have H : ((some (([] : List Int) : List Int)).bind fun y128 => (if y128.length + l0.length < 17592186044416 then (some (y128 ++ l0)) else (none))) = some r := h
 clear h
 obtain ⟨y128, hy128⟩ : ∃ y_ : List Int, y_ = (([] : List Int)) := ⟨_, rfl⟩
 replace H : (if y128.length + l0.length < 17592186044416 then (some (y128 ++ l0)) else (none)) = some r := by first | (rw [hy128]; with_reducible exact H) | (have H2_ := (Option.bind_some _ _).symm.trans H; rw [hy128]; with_reducible exact H2_) | (have H2_ := (Option.bind_some _ _).symm.trans H; with_reducible exact H2_) | with_reducible exact H | (rw [hy128]; exact H) | exact H
 have Ny128 := Aside0.mk hy128
 clear hy128
 by_cases c2 : y128.length + l0.length < 17592186044416
 ·rw [if_pos c2] at H
  have LMc2 := Aside0.mk c2
  clear c2
  obtain ⟨y131, hy131⟩ : ∃ y_ : List Int, y_ = (y128 ++ l0) := ⟨_, rfl⟩
  replace H : (some y131) = some r := by first | (rw [hy131]; with_reducible exact H) | (have H2_ := (Option.bind_some _ _).symm.trans H; rw [hy131]; with_reducible exact H2_) | (have H2_ := (Option.bind_some _ _).symm.trans H; with_reducible exact H2_) | with_reducible exact H | (rw [hy131]; exact H) | exact H
  have Ny131 := Aside0.mk hy131
  clear hy131
  obtain rfl := Option.some.inj H
  go_enter Try.func98, Try.ntmps98
  go_wp2_with (first | ((with_reducible refine gate_dst (N := 3) rfl ?_); refine Kd.R_lit (Kd.int .i64) _ 3 ?hg (N := 3) ?hd (xs := ([] : List Int)) (inner := []) (ok := fun _ => True) (okp := fun _ => True) ?hr ?hp (fun _ hk => hk) trivial (Below.refl _ _) (Nat.le_refl _) (by simp) ?_; (case hd => rfl); (case hg => rfl); (case hr => first | (go_simp; done) | (go_simp; rfl)); (case hp => exact (Reps.none _ _)); intro v129 w3 ho4 hb hg_ hnew_; clear hg_ hnew_; (first | rw [← Ny128.out] at ho4 | (simp only [Int.reduceToNat] at ho4; rw [← Ny128.out] at ho4)); have HO130 := Aside0.mk (Kd.R_lower ho4 (below_size (xs HB.out))); replace HB := xp HB hb; clear hb ho4) | ((with_reducible refine gate_builtin (b := .append) (xs := #[.tmp 3, .tmp 4]) rfl ?_); at_builtin; refine Kd.R_append_rows (Kd.int .i64) (w0 := w) w.heap.size rfl (.tmp 3) (.tmp 4) 52 3 (.int .i64 0) 8 rfl Try.underlying52 info3 rfl (by decide) (by omega) v129 y128 l0 _ _ _ (fun _ => True) (fun _ => False) rfl rfl ?aO ?aR (fun _ _ h => h) (fun _ h => h.elim) ?aF ?aB ?aS ?aL ?_; (case aR => exact xd ((Kd.C_below HR0.out HB.out))); (case aB => exact (xs HB.out)); (case aF => exact (fun _ _ => trivial)); (case aO => exact (xr HO130.out)); (case aS => exact (below_size (xs HB.out))); (case aL => have := LMc2.out; omega); intro v132 w5 ho hb hg hat; rw [← Ny131.out] at ho; replace HB := Aside0.mk (hb); have HO133 := Aside0.mk (ho); clear HO130; clear ho hb hg hat))
  go_ret
  exact ⟨_, by first | rfl | (simp [errW_none, errW_some] <;> rfl) | (simp [*, errW_none, errW_some] <;> rfl), by (with_reducible repeat (first | apply Kd.R_alloc | apply Kd.R_drewN | apply Kd.R_drew)); exact HO133.out, by repeat (first | (with_reducible first | exact HB.out | apply below_alloc | apply pw_below_drewN | apply below_drew1) | exact HB.out)⟩
 ·rw [if_neg c2] at H
  exact absurd H (by simp)

/-! ### spec_leOrder: function 70 -/
mutual
def spec_leOrder.l0 : Nat → List (S63) → List Int → List (S63) → Int → Int → Option (List Int)
  | 0, _, _, _, _, _ => none
  | k + 1, x0, x3, x8, x9, x10 => if x10 < x9 then (if 0 ≤ x10 then (if x10 < (x8.length : Int) then (spec_leOrder.l1 k x0 x3 x10 0 x8 x9 x10 ((rd_T63 x8 x10).f0) ((rd_T63 x8 x10).f1) ((rd_T63 x8 x10).f2)) else (none)) else (none)) else (some x3)
def spec_leOrder.l1 : Nat → List (S63) → List Int → Int → Int → List (S63) → Int → Int → Int → Int → Int → Option (List Int)
  | 0, _, _, _, _, _, _, _, _, _, _ => none
  | k + 1, x0, x3, x4, x6, x8, x9, x10, x136000, x136001, x136002 => if x6 < (x3.length : Int) then (if 0 ≤ x6 then (if 0 ≤ (rd x3 x6) then (if (rd x3 x6) < (x0.length : Int) then (if ((rd_T63 x0 (rd x3 x6)).f1) ≤ x136001 then (spec_leOrder.l1 k x0 x3 x4 (wrap64 (x6 + 1)) x8 x9 x10 x136000 x136001 x136002) else (if x6 ≤ (x3.length : Int) then ((spec_l1Own.f (x3.take (x6 : Int).toNat)).bind fun t142 => (if t142.length < 17592186044416 then ((some (t142 ++ [x4] : List Int)).bind fun y145 => ((some (x3.drop (x6 : Int).toNat : List Int)).bind fun y148 => (if y145.length + y148.length < 17592186044416 then (spec_leOrder.l0 k x0 (y145 ++ y148) x8 x9 (wrap64 (x10 + 1))) else (none)))) else (none))) else (none))) else (none)) else (none)) else (none)) else (if 0 ≤ x6 then (if x6 ≤ (x3.length : Int) then ((spec_l1Own.f (x3.take (x6 : Int).toNat)).bind fun t159 => (if t159.length < 17592186044416 then ((some (t159 ++ [x4] : List Int)).bind fun y162 => ((some (x3.drop (x6 : Int).toNat : List Int)).bind fun y165 => (if y162.length + y165.length < 17592186044416 then (spec_leOrder.l0 k x0 (y162 ++ y165) x8 x9 (wrap64 (x10 + 1))) else (none)))) else (none))) else (none)) else (none))
end
def spec_leOrder.f (k : Nat) (l0 : List (S63)) : Option (List Int) := spec_leOrder.l0 k l0 ([] : List Int) l0 (l0.length : Int) 0
theorem spec_leOrder.mono_l : ∀ k, (∀ y0 y1 y2 y3 y4, LeO (spec_leOrder.l0 k y0 y1 y2 y3 y4) (spec_leOrder.l0 (k + 1) y0 y1 y2 y3 y4)) ∧ (∀ y0 y1 y2 y3 y4 y5 y6 y7 y8 y9, LeO (spec_leOrder.l1 k y0 y1 y2 y3 y4 y5 y6 y7 y8 y9) (spec_leOrder.l1 (k + 1) y0 y1 y2 y3 y4 y5 y6 y7 y8 y9))
 | 0 => ⟨fun _ _ _ _ _ r h => by simp [spec_leOrder.l0] at h, fun _ _ _ _ _ _ _ _ _ _ r h => by simp [spec_leOrder.l1] at h⟩
 | k + 1 => by
  obtain ⟨ih0, ih1⟩ := spec_leOrder.mono_l k
  refine ⟨?_, ?_⟩
  ·intro y0 y1 y2 y3 y4
   unfold spec_leOrder.l0
   repeat' first
   | (with_reducible exact ih0 _ _ _ _ _)
   | (with_reducible exact ih1 _ _ _ _ _ _ _ _ _ _)
   | (with_reducible exact LeO.refl _)
   | (with_reducible exact LeO.none _)
   | (with_reducible refine LeO.ite ?_ ?_)
   | (with_reducible refine LeO.bind ?_ (fun _ => ?_))
   | exact ih0 _ _ _ _ _
   | exact ih1 _ _ _ _ _ _ _ _ _ _
   | exact LeO.none _
   | refine LeO.ite ?_ ?_
   | refine LeO.bind ?_ (fun _ => ?_)
  ·intro y0 y1 y2 y3 y4 y5 y6 y7 y8 y9
   unfold spec_leOrder.l1
   repeat' first
   | (with_reducible exact ih0 _ _ _ _ _)
   | (with_reducible exact ih1 _ _ _ _ _ _ _ _ _ _)
   | (with_reducible exact LeO.refl _)
   | (with_reducible exact LeO.none _)
   | (with_reducible refine LeO.ite ?_ ?_)
   | (with_reducible refine LeO.bind ?_ (fun _ => ?_))
   | exact ih0 _ _ _ _ _
   | exact ih1 _ _ _ _ _ _ _ _ _ _
   | exact LeO.none _
   | refine LeO.ite ?_ ?_
   | refine LeO.bind ?_ (fun _ => ?_)
theorem spec_leOrder.mono : ∀ a0 k, LeO (spec_leOrder.f k a0) (spec_leOrder.f (k + 1) a0) := by
 intro a0 k
 obtain ⟨ih0, ih1⟩ := spec_leOrder.mono_l k
 unfold spec_leOrder.f
 repeat' first
   | (with_reducible exact ih0 _ _ _ _ _)
   | (with_reducible exact ih1 _ _ _ _ _ _ _ _ _ _)
   | (with_reducible exact LeO.refl _)
   | (with_reducible exact LeO.none _)
   | (with_reducible refine LeO.ite ?_ ?_)
   | (with_reducible refine LeO.bind ?_ (fun _ => ?_))
   | exact ih0 _ _ _ _ _
   | exact ih1 _ _ _ _ _ _ _ _ _ _
   | exact LeO.none _
   | refine LeO.ite ?_ ?_
   | refine LeO.bind ?_ (fun _ => ?_)
set_option maxHeartbeats 8000000 in
set_option maxRecDepth 100000 in
theorem spec_leOrder.calls (k : Nat) (A0 : Option Addr) (c0 : Nat) (l0 : List (S63)) (r : List Int) (w : World) (hr0 : Kd.C k63 w A0 l0.length l0) (hc0 : l0.length ≤ c0) (h : spec_leOrder.f k l0 = some r) :
  Calls Try.prog 70 #[.slice A0 l0.length c0] w fun e w' => ∃ v0_ : Value, e = .returned (v0_) ∧ Kd.R (Kd.int .i64) 3 w' w.heap.size (fun _ => True) v0_ r ∧ Below w.heap.size w w' := by
 have hu63 := Try.underlying63
 have HR0 := Aside0.mk hr0
 have HC0 := Aside0.mk hc0
 clear hr0 hc0
 have HB := Aside0.mk (Below.refl w.heap.size w)
 have H : (spec_leOrder.l0 k l0 ([] : List Int) l0 (l0.length : Int) 0) = some r := h
 clear h
 have H' := Aside0.mk H
 clear H
 go_enter Try.func70, Try.ntmps70
 go_wp2
 repeat (go_quiet (fail); try go_wp2)
 go_loopg [3, 10] k (fun kq v3 v10 w' => ∃ (x3_1 : List Int) (x10_1 : Int), v10 = .int .i64 x10_1 ∧ Aside0 (spec_leOrder.l0 kq l0 x3_1 l0 (l0.length : Int) x10_1 = some r) ∧ Aside0 (kq ≤ k) ∧ Aside0 (Kd.R (Kd.int .i64) 3 w' w.heap.size (fun _ => True) v3 x3_1) ∧ Aside0 (Below w.heap.size w w'))
 case atStart => exact ⟨(([] : List Int)), (0), (by first | rfl | (simp; done) | (simp [*]; done)), H', ⟨Nat.le_refl _⟩, ⟨by first | exact Kd.R_nil _ _ _ _ _ | exact Kd.N_nil _ _ _ _ _ | exact Kd.V_nil _ _ _ _ _ | exact Kd.Q_nil _ _ _ _ _ | exact Kd.S_nil _ _ _ _ _⟩, ⟨xs HB.out⟩⟩
 case round =>
  clear H'
  obtain ⟨x3_1, x10_1, rfl, HA, HK1, HO_3, HB⟩ := hrel
  cases gk with
  | zero => exact absurd HA.out (by simp [spec_leOrder.l0])
  | succ k1 =>
   have H := HA.out
   clear HA
   simp only [spec_leOrder.l0] at H
   by_cases c2 : x10_1 < (l0.length : Int)
   ·rw [if_pos c2] at H
    have c2b0 : decide (x10_1 < (l0.length : Int)) = true := decide_eq_true c2
    clear c2
    by_cases c3 : 0 ≤ x10_1
    ·rw [if_pos c3] at H
     have c3b0 : decide (0 ≤ x10_1) = true := decide_eq_true c3
     clear c3
     by_cases c4 : x10_1 < (l0.length : Int)
     ·rw [if_pos c4] at H
      have c4b0 : decide (x10_1 < (l0.length : Int)) = true := decide_eq_true c4
      clear c4
      have H' := Aside0.mk H
      clear H
      have p134 : 0 ≤ (x10_1 : Int) := of_decide_eq_true (by first | (with_reducible assumption) | assumption)
      have q134 : x10_1 < (l0.length : Int) := of_decide_eq_true (by first | (with_reducible assumption) | assumption)
      obtain ⟨ad134, e134, hx134_0, hx134_1, hx134_2⟩ := at_T63 HR0.out x10_1 p134 q134
      cases e134
      replace hx134_0 := (HB.out.cell (World.block_lt_of_cell? w _ hx134_0)).trans hx134_0
      replace hx134_1 := (HB.out.cell (World.block_lt_of_cell? w _ hx134_1)).trans hx134_1
      replace hx134_2 := (HB.out.cell (World.block_lt_of_cell? w _ hx134_2)).trans hx134_2
      replace p134 := eq_true p134
      replace q134 := eq_true q134
      go_wp2_with (first | ((with_reducible refine gate_dst (N := 5) rfl ?_); refine box_event ?hg (N := 5) ?hd (cs := #[.int .i64 0, .int .i64 0, .int .i64 0]) (t := 63) ?hr ?_; (case hd => rfl); (case hg => rfl); (case hr => first | (go_simp; done) | (go_simp; rfl)); intro gb135 hg w5 hbox hb; replace HO_3 := xq HO_3 hb; have BK135 := Aside0.mk (hbox); have GW135 := xg HB hg; have GE135 := xg HB hg; replace HB := xp HB hb; clear hb hbox hg; have hcz6_0 : w5.cell? ⟨gb135, 0, none⟩ = some (.int .i64 0) := (blk_cell BK135.out 0).trans rfl; have hcz6_1 : w5.cell? ⟨gb135, 1, none⟩ = some (.int .i64 0) := (blk_cell BK135.out 1).trans rfl; have hcz6_2 : w5.cell? ⟨gb135, 2, none⟩ = some (.int .i64 0) := (blk_cell BK135.out 2).trans rfl; have hfz6_0 := blk_frozen BK135.out 0; have hfz6_1 := blk_frozen BK135.out 1; have hfz6_2 := blk_frozen BK135.out 2))
      repeat (go_quiet (first | ((with_reducible refine gate_dst (N := 5) rfl ?_); refine box_event ?hg (N := 5) ?hd (cs := #[.int .i64 0, .int .i64 0, .int .i64 0]) (t := 63) ?hr ?_; (case hd => rfl); (case hg => rfl); (case hr => first | (go_simp; done) | (go_simp; rfl)); intro gb135 hg w5 hbox hb; replace HO_3 := xq HO_3 hb; have BK135 := Aside0.mk (hbox); have GW135 := xg HB hg; have GE135 := xg HB hg; replace HB := xp HB hb; clear hb hbox hg; have hcz6_0 : w5.cell? ⟨gb135, 0, none⟩ = some (.int .i64 0) := (blk_cell BK135.out 0).trans rfl; have hcz6_1 : w5.cell? ⟨gb135, 1, none⟩ = some (.int .i64 0) := (blk_cell BK135.out 1).trans rfl; have hcz6_2 : w5.cell? ⟨gb135, 2, none⟩ = some (.int .i64 0) := (blk_cell BK135.out 2).trans rfl; have hfz6_0 := blk_frozen BK135.out 0; have hfz6_1 := blk_frozen BK135.out 1; have hfz6_2 := blk_frozen BK135.out 2)); try go_wp2_with (first | ((with_reducible refine gate_dst (N := 5) rfl ?_); refine box_event ?hg (N := 5) ?hd (cs := #[.int .i64 0, .int .i64 0, .int .i64 0]) (t := 63) ?hr ?_; (case hd => rfl); (case hg => rfl); (case hr => first | (go_simp; done) | (go_simp; rfl)); intro gb135 hg w5 hbox hb; replace HO_3 := xq HO_3 hb; have BK135 := Aside0.mk (hbox); have GW135 := xg HB hg; have GE135 := xg HB hg; replace HB := xp HB hb; clear hb hbox hg; have hcz6_0 : w5.cell? ⟨gb135, 0, none⟩ = some (.int .i64 0) := (blk_cell BK135.out 0).trans rfl; have hcz6_1 : w5.cell? ⟨gb135, 1, none⟩ = some (.int .i64 0) := (blk_cell BK135.out 1).trans rfl; have hcz6_2 : w5.cell? ⟨gb135, 2, none⟩ = some (.int .i64 0) := (blk_cell BK135.out 2).trans rfl; have hfz6_0 := blk_frozen BK135.out 0; have hfz6_1 := blk_frozen BK135.out 1; have hfz6_2 := blk_frozen BK135.out 2)))
      go_loopg [6] k1 (fun kq v6 w' => ∃ (x6_2 : Int), v6 = .int .i64 x6_2 ∧ Aside0 (spec_leOrder.l1 kq l0 x3_1 x10_1 x6_2 l0 (l0.length : Int) x10_1 ((rd_T63 l0 x10_1).f0) ((rd_T63 l0 x10_1).f1) ((rd_T63 l0 x10_1).f2) = some r) ∧ Aside0 (kq ≤ k1) ∧ Aside0 (Kd.R (Kd.int .i64) 3 w' w.heap.size (fun _ => True) u3 x3_1) ∧ Aside0 (w'.heap[gb135]? = some (.cells #[.int .i64 ((rd_T63 l0 x10_1).f0), .int .i64 ((rd_T63 l0 x10_1).f1), .int .i64 ((rd_T63 l0 x10_1).f2)] 63 (0, 0))) ∧ Aside0 (Below w.heap.size w w'))
      case atStart => exact ⟨(0), (by first | rfl | (simp; done) | (simp [*]; done)), H', ⟨Nat.le_refl _⟩, ⟨by (with_reducible repeat (first | apply Kd.R_alloc | apply Kd.R_drewN | apply Kd.R_drew)); exact Kd.R_mono (Kd.R_far (p := ⟨gb135, 2, none⟩) (Kd.R_far (p := ⟨gb135, 1, none⟩) (Kd.R_far (p := ⟨gb135, 0, none⟩) (Kd.R_types HO_3.out BK135.out (by decide)) (fun _ hk => hk.2) (.int .i64 ((rd_T63 l0 x10_1).f0))) (fun _ hk => hk.2) (.int .i64 ((rd_T63 l0 x10_1).f1))) (fun _ hk => hk.2) (.int .i64 ((rd_T63 l0 x10_1).f2))) (fun _ hk => trivial)⟩, ⟨by (with_reducible repeat (first | refine blk_drewN ?_ _ | refine blk_drew ?_ | refine blk_alloc ?_ _)); refine blk_put (cs := #[.int .i64 ((rd_T63 l0 x10_1).f0), .int .i64 ((rd_T63 l0 x10_1).f1), .int .i64 0]) ?_ 2 _ rfl; (with_reducible repeat (first | refine blk_drewN ?_ _ | refine blk_drew ?_ | refine blk_alloc ?_ _)); refine blk_put (cs := #[.int .i64 ((rd_T63 l0 x10_1).f0), .int .i64 0, .int .i64 0]) ?_ 1 _ rfl; (with_reducible repeat (first | refine blk_drewN ?_ _ | refine blk_drew ?_ | refine blk_alloc ?_ _)); refine blk_put (cs := #[.int .i64 0, .int .i64 0, .int .i64 0]) ?_ 0 _ rfl; (with_reducible repeat (first | refine blk_drewN ?_ _ | refine blk_drew ?_ | refine blk_alloc ?_ _)); exact BK135.out⟩, ⟨xs HB.out⟩⟩
      case round =>
       clear H'
       try clear p1
       try clear q1
       try clear hx1
       try clear c2
       try clear c2b0
       try clear p2
       try clear c3
       try clear c3b0
       try clear c4
       try clear c4b0
       try clear hcz6_0
       try clear hcz6_1
       try clear hcz6_2
       try clear hfz6_0
       try clear hfz6_1
       try clear hfz6_2
       try clear hx134_0
       try clear hx134_1
       try clear hx134_2
       try clear p134
       try clear q134
       obtain ⟨x6_2, rfl, HA, HK2, HO_3, BK135, HB⟩ := hrel
       cases gk with
       | zero => exact absurd HA.out (by simp [spec_leOrder.l1])
       | succ k2 =>
        have H := HA.out
        clear HA
        simp only [spec_leOrder.l1] at H
        by_cases c7 : x6_2 < (x3_1.length : Int)
        ·rw [if_pos c7] at H
         have c7b0 : decide (x6_2 < (x3_1.length : Int)) = true := decide_eq_true c7
         clear c7
         by_cases c8 : 0 ≤ x6_2
         ·rw [if_pos c8] at H
          have c8b0 : decide (0 ≤ x6_2) = true := decide_eq_true c8
          clear c8
          by_cases c9 : 0 ≤ (rd x3_1 x6_2)
          ·rw [if_pos c9] at H
           have c9b0 : decide (0 ≤ (rd x3_1 x6_2)) = true := decide_eq_true c9
           clear c9
           by_cases c10 : (rd x3_1 x6_2) < (l0.length : Int)
           ·rw [if_pos c10] at H
            have c10b0 : decide ((rd x3_1 x6_2) < (l0.length : Int)) = true := decide_eq_true c10
            clear c10
            by_cases c11 : ((rd_T63 l0 (rd x3_1 x6_2)).f1) ≤ ((rd_T63 l0 x10_1).f1)
            ·rw [if_pos c11] at H
             have c11b0 : decide (((rd_T63 l0 (rd x3_1 x6_2)).f1) ≤ ((rd_T63 l0 x10_1).f1)) = true := decide_eq_true c11
             clear c11
             have H' := Aside0.mk H
             clear H
             obtain ⟨Ao12, co12, eo12⟩ := Kd.R_slice HO_3.out
             subst eo12
             have p136 : 0 ≤ (x6_2 : Int) := of_decide_eq_true (by first | (with_reducible assumption) | assumption)
             have q136 : x6_2 < (x3_1.length : Int) := of_decide_eq_true (by first | (with_reducible assumption) | assumption)
             obtain ⟨ad136, e136, hx136_0⟩ := Kd.at_int (Kd.R_reads' HO_3.out).2.2 x6_2 p136 q136
             cases e136
             replace p136 := eq_true p136
             replace q136 := eq_true q136
             have p137 : 0 ≤ ((rd x3_1 x6_2) : Int) := of_decide_eq_true (by first | (with_reducible assumption) | assumption)
             have q137 : (rd x3_1 x6_2) < (l0.length : Int) := of_decide_eq_true (by first | (with_reducible assumption) | assumption)
             obtain ⟨ad137, e137, hx137_0, hx137_1, hx137_2⟩ := at_T63 HR0.out (rd x3_1 x6_2) p137 q137
             obtain rfl : ad134 = ad137 := (by injection e137)
             replace hx137_0 := (HB.out.cell (World.block_lt_of_cell? w _ hx137_0)).trans hx137_0
             replace hx137_1 := (HB.out.cell (World.block_lt_of_cell? w _ hx137_1)).trans hx137_1
             replace hx137_2 := (HB.out.cell (World.block_lt_of_cell? w _ hx137_2)).trans hx137_2
             replace p137 := eq_true p137
             replace q137 := eq_true q137
             have hcz13_0 : wr.cell? ⟨gb135, 0, none⟩ = some (.int .i64 ((rd_T63 l0 x10_1).f0)) := (blk_cell BK135.out 0).trans rfl
             have hcz13_1 : wr.cell? ⟨gb135, 1, none⟩ = some (.int .i64 ((rd_T63 l0 x10_1).f1)) := (blk_cell BK135.out 1).trans rfl
             have hcz13_2 : wr.cell? ⟨gb135, 2, none⟩ = some (.int .i64 ((rd_T63 l0 x10_1).f2)) := (blk_cell BK135.out 2).trans rfl
             have hfz13_0 := blk_frozen BK135.out 0
             have hfz13_1 := blk_frozen BK135.out 1
             have hfz13_2 := blk_frozen BK135.out 2
             go_wp2
             repeat (go_quiet (fail); try go_wp2)
             go_roundg k2
             case measure => have := HK1.out; have := HK2.out; omega
             case rel => exact ⟨(wrap64 (x6_2 + 1)), (by first | rfl | (simp; done) | (simp [*]; done)), H', ⟨by have := HK1.out; have := HK2.out; omega⟩, ⟨xr HO_3.out⟩, ⟨xb BK135.out⟩, ⟨xs HB.out⟩⟩
            ·rw [if_neg c11] at H
             have c11b0 : decide (((rd_T63 l0 (rd x3_1 x6_2)).f1) ≤ ((rd_T63 l0 x10_1).f1)) = false := decide_eq_false c11
             clear c11
             have c14b0 := eq_true (of_decide_eq_true (by first | (with_reducible assumption) | assumption) : 0 ≤ x6_2)
             by_cases c15 : x6_2 ≤ (x3_1.length : Int)
             ·rw [if_pos c15] at H
              have c15b0 := eq_true c15
              have c15b1 : decide (x6_2 ≤ (x3_1.length : Int)) = true := decide_eq_true c15
              clear c15
              obtain ⟨y138, hy138⟩ : ∃ y_ : List Int, y_ = (x3_1.take (x6_2 : Int).toNat) := ⟨_, rfl⟩
              replace H : ((spec_l1Own.f y138).bind fun t142 => (if t142.length < 17592186044416 then ((some (t142 ++ [x10_1] : List Int)).bind fun y145 => ((some (x3_1.drop (x6_2 : Int).toNat : List Int)).bind fun y148 => (if y145.length + y148.length < 17592186044416 then (spec_leOrder.l0 k2 l0 (y145 ++ y148) l0 (l0.length : Int) (wrap64 (x10_1 + 1))) else (none)))) else (none))) = some r := by first | (rw [hy138]; with_reducible exact H) | (have H2_ := (Option.bind_some _ _).symm.trans H; rw [hy138]; with_reducible exact H2_) | (have H2_ := (Option.bind_some _ _).symm.trans H; with_reducible exact H2_) | with_reducible exact H | (rw [hy138]; exact H) | exact H
              have Ny138 := Aside0.mk hy138
              clear hy138
              replace H := Option.bind_eq_some_iff.mp H
              obtain ⟨t142, A160, H⟩ := H
              replace H : (if t142.length < 17592186044416 then ((some (t142 ++ [x10_1] : List Int)).bind fun y145 => ((some (x3_1.drop (x6_2 : Int).toNat : List Int)).bind fun y148 => (if y145.length + y148.length < 17592186044416 then (spec_leOrder.l0 k2 l0 (y145 ++ y148) l0 (l0.length : Int) (wrap64 (x10_1 + 1))) else (none)))) else (none)) = some r := H
              have A16 := Aside0.mk A160
              clear A160
              by_cases c17 : t142.length < 17592186044416
              ·rw [if_pos c17] at H
               have LMc17 := Aside0.mk c17
               clear c17
               obtain ⟨y145, hy145⟩ : ∃ y_ : List Int, y_ = (t142 ++ [x10_1]) := ⟨_, rfl⟩
               replace H : ((some (x3_1.drop (x6_2 : Int).toNat : List Int)).bind fun y148 => (if y145.length + y148.length < 17592186044416 then (spec_leOrder.l0 k2 l0 (y145 ++ y148) l0 (l0.length : Int) (wrap64 (x10_1 + 1))) else (none))) = some r := by first | (rw [hy145]; with_reducible exact H) | (have H2_ := (Option.bind_some _ _).symm.trans H; rw [hy145]; with_reducible exact H2_) | (have H2_ := (Option.bind_some _ _).symm.trans H; with_reducible exact H2_) | with_reducible exact H | (rw [hy145]; exact H) | exact H
               have Ny145 := Aside0.mk hy145
               clear hy145
               have c18b0 := eq_true (of_decide_eq_true (by first | (with_reducible assumption) | assumption) : 0 ≤ x6_2)
               have c19b0 := eq_true (of_decide_eq_true (by first | (with_reducible assumption) | assumption) : x6_2 ≤ (x3_1.length : Int))
               obtain ⟨y148, hy148⟩ : ∃ y_ : List Int, y_ = (x3_1.drop (x6_2 : Int).toNat) := ⟨_, rfl⟩
               replace H : (if y145.length + y148.length < 17592186044416 then (spec_leOrder.l0 k2 l0 (y145 ++ y148) l0 (l0.length : Int) (wrap64 (x10_1 + 1))) else (none)) = some r := by first | (rw [hy148]; with_reducible exact H) | (have H2_ := (Option.bind_some _ _).symm.trans H; rw [hy148]; with_reducible exact H2_) | (have H2_ := (Option.bind_some _ _).symm.trans H; with_reducible exact H2_) | with_reducible exact H | (rw [hy148]; exact H) | exact H
               have Ny148 := Aside0.mk hy148
               clear hy148
               by_cases c20 : y145.length + y148.length < 17592186044416
               ·rw [if_pos c20] at H
                have LMc20 := Aside0.mk c20
                clear c20
                obtain ⟨y152, hy152⟩ : ∃ y_ : List Int, y_ = (y145 ++ y148) := ⟨_, rfl⟩
                replace H : (spec_leOrder.l0 k2 l0 y152 l0 (l0.length : Int) (wrap64 (x10_1 + 1))) = some r := by first | (rw [hy152]; with_reducible exact H) | (have H2_ := (Option.bind_some _ _).symm.trans H; rw [hy152]; with_reducible exact H2_) | (have H2_ := (Option.bind_some _ _).symm.trans H; with_reducible exact H2_) | with_reducible exact H | (rw [hy152]; exact H) | exact H
                have Ny152 := Aside0.mk hy152
                clear hy152
                have H' := Aside0.mk H
                clear H
                obtain ⟨Ao21, co21, eo21⟩ := Kd.R_slice HO_3.out
                subst eo21
                have p136 : 0 ≤ (x6_2 : Int) := of_decide_eq_true (by first | (with_reducible assumption) | assumption)
                have q136 : x6_2 < (x3_1.length : Int) := of_decide_eq_true (by first | (with_reducible assumption) | assumption)
                obtain ⟨ad136, e136, hx136_0⟩ := Kd.at_int (Kd.R_reads' HO_3.out).2.2 x6_2 p136 q136
                cases e136
                replace p136 := eq_true p136
                replace q136 := eq_true q136
                have p137 : 0 ≤ ((rd x3_1 x6_2) : Int) := of_decide_eq_true (by first | (with_reducible assumption) | assumption)
                have q137 : (rd x3_1 x6_2) < (l0.length : Int) := of_decide_eq_true (by first | (with_reducible assumption) | assumption)
                obtain ⟨ad137, e137, hx137_0, hx137_1, hx137_2⟩ := at_T63 HR0.out (rd x3_1 x6_2) p137 q137
                obtain rfl : ad134 = ad137 := (by injection e137)
                replace hx137_0 := (HB.out.cell (World.block_lt_of_cell? w _ hx137_0)).trans hx137_0
                replace hx137_1 := (HB.out.cell (World.block_lt_of_cell? w _ hx137_1)).trans hx137_1
                replace hx137_2 := (HB.out.cell (World.block_lt_of_cell? w _ hx137_2)).trans hx137_2
                replace p137 := eq_true p137
                replace q137 := eq_true q137
                have hcz22_0 : wr.cell? ⟨gb135, 0, none⟩ = some (.int .i64 ((rd_T63 l0 x10_1).f0)) := (blk_cell BK135.out 0).trans rfl
                have hcz22_1 : wr.cell? ⟨gb135, 1, none⟩ = some (.int .i64 ((rd_T63 l0 x10_1).f1)) := (blk_cell BK135.out 1).trans rfl
                have hcz22_2 : wr.cell? ⟨gb135, 2, none⟩ = some (.int .i64 ((rd_T63 l0 x10_1).f2)) := (blk_cell BK135.out 2).trans rfl
                have hfz22_0 := blk_frozen BK135.out 0
                have hfz22_1 := blk_frozen BK135.out 1
                have hfz22_2 := blk_frozen BK135.out 2
                have q23 : (x6_2 : Int) ≤ ((x3_1.length : Int) : Int) := of_decide_eq_true (by first | (with_reducible assumption) | assumption)
                obtain ⟨i023, hi023, _, hsz23, _⟩ := info_parts info3
                have hroom23 : x3_1.length ≤ co21 := (Kd.R_reads' HO_3.out).2.1
                have hC23 : Kd.C (Kd.int .i64) _ (some ad136) x3_1.length x3_1 := (Kd.R_reads' HO_3.out).2.2
                have hcut23 := cut_to (P := Try.prog) 52 3 .i64 Try.underlying52 hi023 (some ad136) x3_1.length co21 x6_2 (of_decide_eq_true (by first | (with_reducible assumption) | assumption)) q23 hroom23
                have hr23 := Kd.C_take (m := (x6_2 : Int).toNat) hC23 (by omega)
                have hy23 : y138.length = (x6_2 : Int).toNat := (by rw [Ny138.out, List.length_take]; omega)
                rw [← Ny138.out] at hr23
                rw [← hy23] at hcut23
                have HR141 := Aside0.mk hr23
                have HC141 := Aside0.mk (show y138.length ≤ co21 from by omega)
                clear hr23 hC23 hroom23 hi023 hsz23
                have KY23 := Aside0.mk hy23
                clear hy23
                have KL23 := Aside0.mk (show (x6_2 : Int).toNat ≤ x3_1.length from by omega)
                replace q23 := eq_true q23
                go_wp2_with (first | (go_at_call 98; (with_reducible refine (spec_l1Own.calls _ _ y138 t142 _ ?side1 ?side2 A16.out).mono ?_); (case side1 => repeat (first | exact (by repeat (first | (with_reducible exact HR141.out) | (with_reducible refine Kd.C_alloc ?_ _) | (with_reducible refine Kd.C_drewN ?_ _) | (with_reducible refine Kd.C_drew ?_) | exact HR141.out)) | (with_reducible refine Kd.C_alloc ?_ _) | (with_reducible refine Kd.C_drewN ?_ _) | (with_reducible refine Kd.C_drew ?_))); (case side2 => exact HC141.out); rintro e w24 ⟨v143, rfl, ho0, hb⟩; have HO144 := Aside0.mk (Kd.R_lower (Kd.R_new' ho0 (Kd.R_lt (xr HO_3.out))) (below_size (xs HB.out))); replace HO_3 := Aside0.mk (Kd.R_elder' (xr HO_3.out) (Kd.R_base ho0) hb); replace BK135 := xk BK135 hb; replace HR141 := Aside0.mk (Kd.C_below (by repeat (first | (with_reducible exact HR141.out) | (with_reducible refine Kd.C_alloc ?_ _) | (with_reducible refine Kd.C_drewN ?_ _) | (with_reducible refine Kd.C_drew ?_) | exact HR141.out)) hb); replace HB := xp HB hb; (try clear hb); (try clear hb2); (try clear hk); (try clear hi); (try clear ho0)) | ((with_reducible refine gate_builtin (b := .append) (xs := #[.tmp 37, .tmp 39]) rfl ?_); at_builtin; refine Kd.R_append (Kd.int .i64) (w0 := w) w.heap.size rfl (.tmp 37) (.tmp 39) 52 3 (.int .i64 0) 8 rfl Try.underlying52 info3 rfl (by decide) (by omega) v143 t142 x10_1 [.int .i64 x10_1] (fun k_ => some k_ ≠ (.slice (some ad136) x3_1.length co21 : Value).ownBlock) (fun _ => False) rfl rfl ?aP (fun _ hk => hk.elim) ?aF ?aO ?aB ?aS ?aL ?_; (case aP => exact rfl); (case aB => exact (xs HB.out)); (case aF => exact (fun k_ hk => Kd.fresh' (Kd.R_lt (xr HO_3.out)) k_ hk)); (case aO => exact (xm HO144 (fun _ hk => hk.2))); (case aS => exact (below_size (xs HB.out))); (case aL => have := LMc17.out; omega); intro v146 w25 ho hb hg hat; rw [← Ny145.out] at ho; replace BK135 := Aside0.mk (blk_grown (g := gb135) (o := .cells #[.int .i64 ((rd_T63 l0 x10_1).f0), .int .i64 ((rd_T63 l0 x10_1).f1), .int .i64 ((rd_T63 l0 x10_1).f2)] 63 (0, 0)) (xb BK135.out) hg (Kd.R_ne HO144.out BK135.out (by decide))); replace HB := Aside0.mk (hb); replace HR141 := Aside0.mk ((show Kd.C (Kd.int .i64) w25 (some ad136) y138.length y138 from by rw [Ny138.out]; exact Kd.C_take (m := (x6_2 : Int).toNat) ((Kd.R_reads' (Kd.R_after (ok := (fun _ => True)) (xr HO_3.out) hg hat)).2.2) KL23.out)); replace HO_3 := Aside0.mk (Kd.R_after (ok := (fun _ => True)) (xr HO_3.out) hg hat); have HO147 := Aside0.mk (ho); clear HO144; clear ho hb hg hat; have q26 : (x6_2 : Int) ≤ ((x3_1.length : Int) : Int) := of_decide_eq_true (by first | (with_reducible assumption) | assumption); obtain ⟨i026, hi026, _, hsz26, _⟩ := info_parts info3; have hroom26 : x3_1.length ≤ co21 := (Kd.R_reads' HO_3.out).2.1; have hC26 : Kd.C (Kd.int .i64) _ (some ad136) x3_1.length x3_1 := (Kd.R_reads' HO_3.out).2.2; have q026 : (0 : Int) ≤ (x6_2 : Int) := of_decide_eq_true (by first | (with_reducible assumption) | assumption); have hcut26 := cut_from (P := Try.prog) 52 3 .i64 Try.underlying52 hi026 1 hsz26 (some ad136) x3_1.length co21 x6_2 q026 q26; have hr26 := Kd.C_drop (m := (x6_2 : Int).toNat) (c := co21) hC26 (by omega) hroom26; obtain ⟨A26, hA26⟩ : ∃ A1, A1 = (if co21 = (x6_2 : Int).toNat then (some ad136) else ((some ad136) : Option Addr).map (·.add ((x6_2 : Int).toNat * 1))) := ⟨_, rfl⟩; obtain ⟨c26, hc26⟩ : ∃ c1, c1 = co21 - (x6_2 : Int).toNat := ⟨_, rfl⟩; have hy26 : y148.length = x3_1.length - (x6_2 : Int).toNat := (by rw [Ny148.out, List.length_drop] <;> omega); rw [show (x3_1).drop (x6_2 : Int).toNat = y148 from Ny148.out.symm] at hr26; replace hr26 : Kd.C (Kd.int .i64) _ A26 y148.length y148 := (by rw [hA26]; exact hr26); rw [← hy26, ← hA26, ← hc26] at hcut26; have HR151 := Aside0.mk hr26; have HC151 := Aside0.mk (show y148.length ≤ c26 from by rw [hy26, hc26]; exact Nat.sub_le_sub_right hroom26 _); clear hr26 hC26 hroom26 hi026 hsz26 hc26; have KY26 := Aside0.mk hy26; have KA26 := Aside0.mk hA26; clear hy26 hA26; have KL26 := Aside0.mk (show (x6_2 : Int).toNat ≤ x3_1.length from by omega); replace q26 := eq_true q26) | ((with_reducible refine gate_builtin (b := .append) (xs := #[.tmp 41, .tmp 44]) rfl ?_); at_builtin; refine Kd.R_append_rows (Kd.int .i64) (w0 := w) w.heap.size rfl (.tmp 41) (.tmp 44) 52 3 (.int .i64 0) 8 rfl Try.underlying52 info3 rfl (by decide) (by omega) v146 y145 y148 _ _ _ (fun k_ => some k_ ≠ (.slice (some ad136) x3_1.length co21 : Value).ownBlock) (fun _ => False) rfl rfl ?aO ?aR (fun _ _ h => h) (fun _ h => h.elim) ?aF ?aB ?aS ?aL ?_; (case aR => repeat (first | exact (by repeat (first | (with_reducible exact HR151.out) | (with_reducible refine Kd.C_alloc ?_ _) | (with_reducible refine Kd.C_drewN ?_ _) | (with_reducible refine Kd.C_drew ?_) | exact HR151.out)) | (with_reducible refine Kd.C_alloc ?_ _) | (with_reducible refine Kd.C_drewN ?_ _) | (with_reducible refine Kd.C_drew ?_))); (case aB => exact (xs HB.out)); (case aF => exact (fun k_ hk => Kd.fresh' (Kd.R_lt (xr HO_3.out)) k_ hk)); (case aO => exact (xr HO147.out)); (case aS => exact (below_size (xs HB.out))); (case aL => have := LMc20.out; omega); intro v153 w27 ho hb hg hat; rw [← Ny152.out] at ho; replace BK135 := Aside0.mk (blk_grown (g := gb135) (o := .cells #[.int .i64 ((rd_T63 l0 x10_1).f0), .int .i64 ((rd_T63 l0 x10_1).f1), .int .i64 ((rd_T63 l0 x10_1).f2)] 63 (0, 0)) (xb BK135.out) hg (Kd.R_ne HO147.out BK135.out (by decide))); replace HB := Aside0.mk (hb); replace HR141 := Aside0.mk ((show Kd.C (Kd.int .i64) w27 (some ad136) y138.length y138 from by rw [Ny138.out]; exact Kd.C_take (m := (x6_2 : Int).toNat) ((Kd.R_reads' (Kd.R_after (ok := (fun _ => True)) (xr HO_3.out) hg hat)).2.2) KL23.out)); replace HR151 := Aside0.mk ((show Kd.C (Kd.int .i64) w27 A26 y148.length y148 from by rw [Ny148.out, KA26.out]; exact Kd.C_drop (m := (x6_2 : Int).toNat) (c := co21) ((Kd.R_reads' (Kd.R_after (ok := (fun _ => True)) (xr HO_3.out) hg hat)).2.2) KL26.out ((Kd.R_reads' (Kd.R_after (ok := (fun _ => True)) (xr HO_3.out) hg hat)).2.1))); replace HO_3 := Aside0.mk (Kd.R_after (ok := (fun _ => True)) (xr HO_3.out) hg hat); have HO154 := Aside0.mk (ho); clear HO147; clear ho hb hg hat))
                repeat (go_quiet (first | (go_at_call 98; (with_reducible refine (spec_l1Own.calls _ _ y138 t142 _ ?side1 ?side2 A16.out).mono ?_); (case side1 => repeat (first | exact (by repeat (first | (with_reducible exact HR141.out) | (with_reducible refine Kd.C_alloc ?_ _) | (with_reducible refine Kd.C_drewN ?_ _) | (with_reducible refine Kd.C_drew ?_) | exact HR141.out)) | (with_reducible refine Kd.C_alloc ?_ _) | (with_reducible refine Kd.C_drewN ?_ _) | (with_reducible refine Kd.C_drew ?_))); (case side2 => exact HC141.out); rintro e w24 ⟨v143, rfl, ho0, hb⟩; have HO144 := Aside0.mk (Kd.R_lower (Kd.R_new' ho0 (Kd.R_lt (xr HO_3.out))) (below_size (xs HB.out))); replace HO_3 := Aside0.mk (Kd.R_elder' (xr HO_3.out) (Kd.R_base ho0) hb); replace BK135 := xk BK135 hb; replace HR141 := Aside0.mk (Kd.C_below (by repeat (first | (with_reducible exact HR141.out) | (with_reducible refine Kd.C_alloc ?_ _) | (with_reducible refine Kd.C_drewN ?_ _) | (with_reducible refine Kd.C_drew ?_) | exact HR141.out)) hb); replace HB := xp HB hb; (try clear hb); (try clear hb2); (try clear hk); (try clear hi); (try clear ho0)) | ((with_reducible refine gate_builtin (b := .append) (xs := #[.tmp 37, .tmp 39]) rfl ?_); at_builtin; refine Kd.R_append (Kd.int .i64) (w0 := w) w.heap.size rfl (.tmp 37) (.tmp 39) 52 3 (.int .i64 0) 8 rfl Try.underlying52 info3 rfl (by decide) (by omega) v143 t142 x10_1 [.int .i64 x10_1] (fun k_ => some k_ ≠ (.slice (some ad136) x3_1.length co21 : Value).ownBlock) (fun _ => False) rfl rfl ?aP (fun _ hk => hk.elim) ?aF ?aO ?aB ?aS ?aL ?_; (case aP => exact rfl); (case aB => exact (xs HB.out)); (case aF => exact (fun k_ hk => Kd.fresh' (Kd.R_lt (xr HO_3.out)) k_ hk)); (case aO => exact (xm HO144 (fun _ hk => hk.2))); (case aS => exact (below_size (xs HB.out))); (case aL => have := LMc17.out; omega); intro v146 w25 ho hb hg hat; rw [← Ny145.out] at ho; replace BK135 := Aside0.mk (blk_grown (g := gb135) (o := .cells #[.int .i64 ((rd_T63 l0 x10_1).f0), .int .i64 ((rd_T63 l0 x10_1).f1), .int .i64 ((rd_T63 l0 x10_1).f2)] 63 (0, 0)) (xb BK135.out) hg (Kd.R_ne HO144.out BK135.out (by decide))); replace HB := Aside0.mk (hb); replace HR141 := Aside0.mk ((show Kd.C (Kd.int .i64) w25 (some ad136) y138.length y138 from by rw [Ny138.out]; exact Kd.C_take (m := (x6_2 : Int).toNat) ((Kd.R_reads' (Kd.R_after (ok := (fun _ => True)) (xr HO_3.out) hg hat)).2.2) KL23.out)); replace HO_3 := Aside0.mk (Kd.R_after (ok := (fun _ => True)) (xr HO_3.out) hg hat); have HO147 := Aside0.mk (ho); clear HO144; clear ho hb hg hat; have q26 : (x6_2 : Int) ≤ ((x3_1.length : Int) : Int) := of_decide_eq_true (by first | (with_reducible assumption) | assumption); obtain ⟨i026, hi026, _, hsz26, _⟩ := info_parts info3; have hroom26 : x3_1.length ≤ co21 := (Kd.R_reads' HO_3.out).2.1; have hC26 : Kd.C (Kd.int .i64) _ (some ad136) x3_1.length x3_1 := (Kd.R_reads' HO_3.out).2.2; have q026 : (0 : Int) ≤ (x6_2 : Int) := of_decide_eq_true (by first | (with_reducible assumption) | assumption); have hcut26 := cut_from (P := Try.prog) 52 3 .i64 Try.underlying52 hi026 1 hsz26 (some ad136) x3_1.length co21 x6_2 q026 q26; have hr26 := Kd.C_drop (m := (x6_2 : Int).toNat) (c := co21) hC26 (by omega) hroom26; obtain ⟨A26, hA26⟩ : ∃ A1, A1 = (if co21 = (x6_2 : Int).toNat then (some ad136) else ((some ad136) : Option Addr).map (·.add ((x6_2 : Int).toNat * 1))) := ⟨_, rfl⟩; obtain ⟨c26, hc26⟩ : ∃ c1, c1 = co21 - (x6_2 : Int).toNat := ⟨_, rfl⟩; have hy26 : y148.length = x3_1.length - (x6_2 : Int).toNat := (by rw [Ny148.out, List.length_drop] <;> omega); rw [show (x3_1).drop (x6_2 : Int).toNat = y148 from Ny148.out.symm] at hr26; replace hr26 : Kd.C (Kd.int .i64) _ A26 y148.length y148 := (by rw [hA26]; exact hr26); rw [← hy26, ← hA26, ← hc26] at hcut26; have HR151 := Aside0.mk hr26; have HC151 := Aside0.mk (show y148.length ≤ c26 from by rw [hy26, hc26]; exact Nat.sub_le_sub_right hroom26 _); clear hr26 hC26 hroom26 hi026 hsz26 hc26; have KY26 := Aside0.mk hy26; have KA26 := Aside0.mk hA26; clear hy26 hA26; have KL26 := Aside0.mk (show (x6_2 : Int).toNat ≤ x3_1.length from by omega); replace q26 := eq_true q26) | ((with_reducible refine gate_builtin (b := .append) (xs := #[.tmp 41, .tmp 44]) rfl ?_); at_builtin; refine Kd.R_append_rows (Kd.int .i64) (w0 := w) w.heap.size rfl (.tmp 41) (.tmp 44) 52 3 (.int .i64 0) 8 rfl Try.underlying52 info3 rfl (by decide) (by omega) v146 y145 y148 _ _ _ (fun k_ => some k_ ≠ (.slice (some ad136) x3_1.length co21 : Value).ownBlock) (fun _ => False) rfl rfl ?aO ?aR (fun _ _ h => h) (fun _ h => h.elim) ?aF ?aB ?aS ?aL ?_; (case aR => repeat (first | exact (by repeat (first | (with_reducible exact HR151.out) | (with_reducible refine Kd.C_alloc ?_ _) | (with_reducible refine Kd.C_drewN ?_ _) | (with_reducible refine Kd.C_drew ?_) | exact HR151.out)) | (with_reducible refine Kd.C_alloc ?_ _) | (with_reducible refine Kd.C_drewN ?_ _) | (with_reducible refine Kd.C_drew ?_))); (case aB => exact (xs HB.out)); (case aF => exact (fun k_ hk => Kd.fresh' (Kd.R_lt (xr HO_3.out)) k_ hk)); (case aO => exact (xr HO147.out)); (case aS => exact (below_size (xs HB.out))); (case aL => have := LMc20.out; omega); intro v153 w27 ho hb hg hat; rw [← Ny152.out] at ho; replace BK135 := Aside0.mk (blk_grown (g := gb135) (o := .cells #[.int .i64 ((rd_T63 l0 x10_1).f0), .int .i64 ((rd_T63 l0 x10_1).f1), .int .i64 ((rd_T63 l0 x10_1).f2)] 63 (0, 0)) (xb BK135.out) hg (Kd.R_ne HO147.out BK135.out (by decide))); replace HB := Aside0.mk (hb); replace HR141 := Aside0.mk ((show Kd.C (Kd.int .i64) w27 (some ad136) y138.length y138 from by rw [Ny138.out]; exact Kd.C_take (m := (x6_2 : Int).toNat) ((Kd.R_reads' (Kd.R_after (ok := (fun _ => True)) (xr HO_3.out) hg hat)).2.2) KL23.out)); replace HR151 := Aside0.mk ((show Kd.C (Kd.int .i64) w27 A26 y148.length y148 from by rw [Ny148.out, KA26.out]; exact Kd.C_drop (m := (x6_2 : Int).toNat) (c := co21) ((Kd.R_reads' (Kd.R_after (ok := (fun _ => True)) (xr HO_3.out) hg hat)).2.2) KL26.out ((Kd.R_reads' (Kd.R_after (ok := (fun _ => True)) (xr HO_3.out) hg hat)).2.1))); replace HO_3 := Aside0.mk (Kd.R_after (ok := (fun _ => True)) (xr HO_3.out) hg hat); have HO154 := Aside0.mk (ho); clear HO147; clear ho hb hg hat)); try go_wp2_with (first | (go_at_call 98; (with_reducible refine (spec_l1Own.calls _ _ y138 t142 _ ?side1 ?side2 A16.out).mono ?_); (case side1 => repeat (first | exact (by repeat (first | (with_reducible exact HR141.out) | (with_reducible refine Kd.C_alloc ?_ _) | (with_reducible refine Kd.C_drewN ?_ _) | (with_reducible refine Kd.C_drew ?_) | exact HR141.out)) | (with_reducible refine Kd.C_alloc ?_ _) | (with_reducible refine Kd.C_drewN ?_ _) | (with_reducible refine Kd.C_drew ?_))); (case side2 => exact HC141.out); rintro e w24 ⟨v143, rfl, ho0, hb⟩; have HO144 := Aside0.mk (Kd.R_lower (Kd.R_new' ho0 (Kd.R_lt (xr HO_3.out))) (below_size (xs HB.out))); replace HO_3 := Aside0.mk (Kd.R_elder' (xr HO_3.out) (Kd.R_base ho0) hb); replace BK135 := xk BK135 hb; replace HR141 := Aside0.mk (Kd.C_below (by repeat (first | (with_reducible exact HR141.out) | (with_reducible refine Kd.C_alloc ?_ _) | (with_reducible refine Kd.C_drewN ?_ _) | (with_reducible refine Kd.C_drew ?_) | exact HR141.out)) hb); replace HB := xp HB hb; (try clear hb); (try clear hb2); (try clear hk); (try clear hi); (try clear ho0)) | ((with_reducible refine gate_builtin (b := .append) (xs := #[.tmp 37, .tmp 39]) rfl ?_); at_builtin; refine Kd.R_append (Kd.int .i64) (w0 := w) w.heap.size rfl (.tmp 37) (.tmp 39) 52 3 (.int .i64 0) 8 rfl Try.underlying52 info3 rfl (by decide) (by omega) v143 t142 x10_1 [.int .i64 x10_1] (fun k_ => some k_ ≠ (.slice (some ad136) x3_1.length co21 : Value).ownBlock) (fun _ => False) rfl rfl ?aP (fun _ hk => hk.elim) ?aF ?aO ?aB ?aS ?aL ?_; (case aP => exact rfl); (case aB => exact (xs HB.out)); (case aF => exact (fun k_ hk => Kd.fresh' (Kd.R_lt (xr HO_3.out)) k_ hk)); (case aO => exact (xm HO144 (fun _ hk => hk.2))); (case aS => exact (below_size (xs HB.out))); (case aL => have := LMc17.out; omega); intro v146 w25 ho hb hg hat; rw [← Ny145.out] at ho; replace BK135 := Aside0.mk (blk_grown (g := gb135) (o := .cells #[.int .i64 ((rd_T63 l0 x10_1).f0), .int .i64 ((rd_T63 l0 x10_1).f1), .int .i64 ((rd_T63 l0 x10_1).f2)] 63 (0, 0)) (xb BK135.out) hg (Kd.R_ne HO144.out BK135.out (by decide))); replace HB := Aside0.mk (hb); replace HR141 := Aside0.mk ((show Kd.C (Kd.int .i64) w25 (some ad136) y138.length y138 from by rw [Ny138.out]; exact Kd.C_take (m := (x6_2 : Int).toNat) ((Kd.R_reads' (Kd.R_after (ok := (fun _ => True)) (xr HO_3.out) hg hat)).2.2) KL23.out)); replace HO_3 := Aside0.mk (Kd.R_after (ok := (fun _ => True)) (xr HO_3.out) hg hat); have HO147 := Aside0.mk (ho); clear HO144; clear ho hb hg hat; have q26 : (x6_2 : Int) ≤ ((x3_1.length : Int) : Int) := of_decide_eq_true (by first | (with_reducible assumption) | assumption); obtain ⟨i026, hi026, _, hsz26, _⟩ := info_parts info3; have hroom26 : x3_1.length ≤ co21 := (Kd.R_reads' HO_3.out).2.1; have hC26 : Kd.C (Kd.int .i64) _ (some ad136) x3_1.length x3_1 := (Kd.R_reads' HO_3.out).2.2; have q026 : (0 : Int) ≤ (x6_2 : Int) := of_decide_eq_true (by first | (with_reducible assumption) | assumption); have hcut26 := cut_from (P := Try.prog) 52 3 .i64 Try.underlying52 hi026 1 hsz26 (some ad136) x3_1.length co21 x6_2 q026 q26; have hr26 := Kd.C_drop (m := (x6_2 : Int).toNat) (c := co21) hC26 (by omega) hroom26; obtain ⟨A26, hA26⟩ : ∃ A1, A1 = (if co21 = (x6_2 : Int).toNat then (some ad136) else ((some ad136) : Option Addr).map (·.add ((x6_2 : Int).toNat * 1))) := ⟨_, rfl⟩; obtain ⟨c26, hc26⟩ : ∃ c1, c1 = co21 - (x6_2 : Int).toNat := ⟨_, rfl⟩; have hy26 : y148.length = x3_1.length - (x6_2 : Int).toNat := (by rw [Ny148.out, List.length_drop] <;> omega); rw [show (x3_1).drop (x6_2 : Int).toNat = y148 from Ny148.out.symm] at hr26; replace hr26 : Kd.C (Kd.int .i64) _ A26 y148.length y148 := (by rw [hA26]; exact hr26); rw [← hy26, ← hA26, ← hc26] at hcut26; have HR151 := Aside0.mk hr26; have HC151 := Aside0.mk (show y148.length ≤ c26 from by rw [hy26, hc26]; exact Nat.sub_le_sub_right hroom26 _); clear hr26 hC26 hroom26 hi026 hsz26 hc26; have KY26 := Aside0.mk hy26; have KA26 := Aside0.mk hA26; clear hy26 hA26; have KL26 := Aside0.mk (show (x6_2 : Int).toNat ≤ x3_1.length from by omega); replace q26 := eq_true q26) | ((with_reducible refine gate_builtin (b := .append) (xs := #[.tmp 41, .tmp 44]) rfl ?_); at_builtin; refine Kd.R_append_rows (Kd.int .i64) (w0 := w) w.heap.size rfl (.tmp 41) (.tmp 44) 52 3 (.int .i64 0) 8 rfl Try.underlying52 info3 rfl (by decide) (by omega) v146 y145 y148 _ _ _ (fun k_ => some k_ ≠ (.slice (some ad136) x3_1.length co21 : Value).ownBlock) (fun _ => False) rfl rfl ?aO ?aR (fun _ _ h => h) (fun _ h => h.elim) ?aF ?aB ?aS ?aL ?_; (case aR => repeat (first | exact (by repeat (first | (with_reducible exact HR151.out) | (with_reducible refine Kd.C_alloc ?_ _) | (with_reducible refine Kd.C_drewN ?_ _) | (with_reducible refine Kd.C_drew ?_) | exact HR151.out)) | (with_reducible refine Kd.C_alloc ?_ _) | (with_reducible refine Kd.C_drewN ?_ _) | (with_reducible refine Kd.C_drew ?_))); (case aB => exact (xs HB.out)); (case aF => exact (fun k_ hk => Kd.fresh' (Kd.R_lt (xr HO_3.out)) k_ hk)); (case aO => exact (xr HO147.out)); (case aS => exact (below_size (xs HB.out))); (case aL => have := LMc20.out; omega); intro v153 w27 ho hb hg hat; rw [← Ny152.out] at ho; replace BK135 := Aside0.mk (blk_grown (g := gb135) (o := .cells #[.int .i64 ((rd_T63 l0 x10_1).f0), .int .i64 ((rd_T63 l0 x10_1).f1), .int .i64 ((rd_T63 l0 x10_1).f2)] 63 (0, 0)) (xb BK135.out) hg (Kd.R_ne HO147.out BK135.out (by decide))); replace HB := Aside0.mk (hb); replace HR141 := Aside0.mk ((show Kd.C (Kd.int .i64) w27 (some ad136) y138.length y138 from by rw [Ny138.out]; exact Kd.C_take (m := (x6_2 : Int).toNat) ((Kd.R_reads' (Kd.R_after (ok := (fun _ => True)) (xr HO_3.out) hg hat)).2.2) KL23.out)); replace HR151 := Aside0.mk ((show Kd.C (Kd.int .i64) w27 A26 y148.length y148 from by rw [Ny148.out, KA26.out]; exact Kd.C_drop (m := (x6_2 : Int).toNat) (c := co21) ((Kd.R_reads' (Kd.R_after (ok := (fun _ => True)) (xr HO_3.out) hg hat)).2.2) KL26.out ((Kd.R_reads' (Kd.R_after (ok := (fun _ => True)) (xr HO_3.out) hg hat)).2.1))); replace HO_3 := Aside0.mk (Kd.R_after (ok := (fun _ => True)) (xr HO_3.out) hg hat); have HO154 := Aside0.mk (ho); clear HO147; clear ho hb hg hat)))
                go_roundg k2
                case measure => have := HK1.out; have := HK2.out; omega
                case rel => exact ⟨(y152), (wrap64 (x10_1 + 1)), (by first | rfl | (simp; done) | (simp [*]; done)), H', ⟨by have := HK1.out; have := HK2.out; omega⟩, ⟨xm HO154 (fun _ hk => trivial)⟩, ⟨xs HB.out⟩⟩
               ·rw [if_neg c20] at H
                exact absurd H (by simp)
              ·rw [if_neg c17] at H
               exact absurd H (by simp)
             ·rw [if_neg c15] at H
              exact absurd H (by simp)
           ·rw [if_neg c10] at H
            exact absurd H (by simp)
          ·rw [if_neg c9] at H
           exact absurd H (by simp)
         ·rw [if_neg c8] at H
          exact absurd H (by simp)
        ·rw [if_neg c7] at H
         have c7b0 : decide (x6_2 < (x3_1.length : Int)) = false := decide_eq_false c7
         clear c7
         by_cases c28 : 0 ≤ x6_2
         ·rw [if_pos c28] at H
          have c28b0 := eq_true c28
          have c28b1 : decide (0 ≤ x6_2) = true := decide_eq_true c28
          clear c28
          by_cases c29 : x6_2 ≤ (x3_1.length : Int)
          ·rw [if_pos c29] at H
           have c29b0 := eq_true c29
           have c29b1 : decide (x6_2 ≤ (x3_1.length : Int)) = true := decide_eq_true c29
           clear c29
           obtain ⟨y155, hy155⟩ : ∃ y_ : List Int, y_ = (x3_1.take (x6_2 : Int).toNat) := ⟨_, rfl⟩
           replace H : ((spec_l1Own.f y155).bind fun t159 => (if t159.length < 17592186044416 then ((some (t159 ++ [x10_1] : List Int)).bind fun y162 => ((some (x3_1.drop (x6_2 : Int).toNat : List Int)).bind fun y165 => (if y162.length + y165.length < 17592186044416 then (spec_leOrder.l0 k2 l0 (y162 ++ y165) l0 (l0.length : Int) (wrap64 (x10_1 + 1))) else (none)))) else (none))) = some r := by first | (rw [hy155]; with_reducible exact H) | (have H2_ := (Option.bind_some _ _).symm.trans H; rw [hy155]; with_reducible exact H2_) | (have H2_ := (Option.bind_some _ _).symm.trans H; with_reducible exact H2_) | with_reducible exact H | (rw [hy155]; exact H) | exact H
           have Ny155 := Aside0.mk hy155
           clear hy155
           replace H := Option.bind_eq_some_iff.mp H
           obtain ⟨t159, A300, H⟩ := H
           replace H : (if t159.length < 17592186044416 then ((some (t159 ++ [x10_1] : List Int)).bind fun y162 => ((some (x3_1.drop (x6_2 : Int).toNat : List Int)).bind fun y165 => (if y162.length + y165.length < 17592186044416 then (spec_leOrder.l0 k2 l0 (y162 ++ y165) l0 (l0.length : Int) (wrap64 (x10_1 + 1))) else (none)))) else (none)) = some r := H
           have A30 := Aside0.mk A300
           clear A300
           by_cases c31 : t159.length < 17592186044416
           ·rw [if_pos c31] at H
            have LMc31 := Aside0.mk c31
            clear c31
            obtain ⟨y162, hy162⟩ : ∃ y_ : List Int, y_ = (t159 ++ [x10_1]) := ⟨_, rfl⟩
            replace H : ((some (x3_1.drop (x6_2 : Int).toNat : List Int)).bind fun y165 => (if y162.length + y165.length < 17592186044416 then (spec_leOrder.l0 k2 l0 (y162 ++ y165) l0 (l0.length : Int) (wrap64 (x10_1 + 1))) else (none))) = some r := by first | (rw [hy162]; with_reducible exact H) | (have H2_ := (Option.bind_some _ _).symm.trans H; rw [hy162]; with_reducible exact H2_) | (have H2_ := (Option.bind_some _ _).symm.trans H; with_reducible exact H2_) | with_reducible exact H | (rw [hy162]; exact H) | exact H
            have Ny162 := Aside0.mk hy162
            clear hy162
            have c32b0 := eq_true (of_decide_eq_true (by first | (with_reducible assumption) | assumption) : 0 ≤ x6_2)
            have c33b0 := eq_true (of_decide_eq_true (by first | (with_reducible assumption) | assumption) : x6_2 ≤ (x3_1.length : Int))
            obtain ⟨y165, hy165⟩ : ∃ y_ : List Int, y_ = (x3_1.drop (x6_2 : Int).toNat) := ⟨_, rfl⟩
            replace H : (if y162.length + y165.length < 17592186044416 then (spec_leOrder.l0 k2 l0 (y162 ++ y165) l0 (l0.length : Int) (wrap64 (x10_1 + 1))) else (none)) = some r := by first | (rw [hy165]; with_reducible exact H) | (have H2_ := (Option.bind_some _ _).symm.trans H; rw [hy165]; with_reducible exact H2_) | (have H2_ := (Option.bind_some _ _).symm.trans H; with_reducible exact H2_) | with_reducible exact H | (rw [hy165]; exact H) | exact H
            have Ny165 := Aside0.mk hy165
            clear hy165
            by_cases c34 : y162.length + y165.length < 17592186044416
            ·rw [if_pos c34] at H
             have LMc34 := Aside0.mk c34
             clear c34
             obtain ⟨y169, hy169⟩ : ∃ y_ : List Int, y_ = (y162 ++ y165) := ⟨_, rfl⟩
             replace H : (spec_leOrder.l0 k2 l0 y169 l0 (l0.length : Int) (wrap64 (x10_1 + 1))) = some r := by first | (rw [hy169]; with_reducible exact H) | (have H2_ := (Option.bind_some _ _).symm.trans H; rw [hy169]; with_reducible exact H2_) | (have H2_ := (Option.bind_some _ _).symm.trans H; with_reducible exact H2_) | with_reducible exact H | (rw [hy169]; exact H) | exact H
             have Ny169 := Aside0.mk hy169
             clear hy169
             have H' := Aside0.mk H
             clear H
             obtain ⟨Ao35, co35, eo35⟩ := Kd.R_slice HO_3.out
             subst eo35
             have q36 : (x6_2 : Int) ≤ ((x3_1.length : Int) : Int) := of_decide_eq_true (by first | (with_reducible assumption) | assumption)
             obtain ⟨i036, hi036, _, hsz36, _⟩ := info_parts info3
             have hroom36 : x3_1.length ≤ co35 := (Kd.R_reads' HO_3.out).2.1
             have hC36 : Kd.C (Kd.int .i64) _ Ao35 x3_1.length x3_1 := (Kd.R_reads' HO_3.out).2.2
             have hcut36 := cut_to (P := Try.prog) 52 3 .i64 Try.underlying52 hi036 Ao35 x3_1.length co35 x6_2 (of_decide_eq_true (by first | (with_reducible assumption) | assumption)) q36 hroom36
             have hr36 := Kd.C_take (m := (x6_2 : Int).toNat) hC36 (by omega)
             have hy36 : y155.length = (x6_2 : Int).toNat := (by rw [Ny155.out, List.length_take]; omega)
             rw [← Ny155.out] at hr36
             rw [← hy36] at hcut36
             have HR158 := Aside0.mk hr36
             have HC158 := Aside0.mk (show y155.length ≤ co35 from by omega)
             clear hr36 hC36 hroom36 hi036 hsz36
             have KY36 := Aside0.mk hy36
             clear hy36
             have KL36 := Aside0.mk (show (x6_2 : Int).toNat ≤ x3_1.length from by omega)
             replace q36 := eq_true q36
             go_wp2_with (first | (go_at_call 98; (with_reducible refine (spec_l1Own.calls _ _ y155 t159 _ ?side1 ?side2 A30.out).mono ?_); (case side1 => repeat (first | exact (by repeat (first | (with_reducible exact HR158.out) | (with_reducible refine Kd.C_alloc ?_ _) | (with_reducible refine Kd.C_drewN ?_ _) | (with_reducible refine Kd.C_drew ?_) | exact HR158.out)) | (with_reducible refine Kd.C_alloc ?_ _) | (with_reducible refine Kd.C_drewN ?_ _) | (with_reducible refine Kd.C_drew ?_))); (case side2 => exact HC158.out); rintro e w37 ⟨v160, rfl, ho0, hb⟩; have HO161 := Aside0.mk (Kd.R_lower (Kd.R_new' ho0 (Kd.R_lt (xr HO_3.out))) (below_size (xs HB.out))); replace HO_3 := Aside0.mk (Kd.R_elder' (xr HO_3.out) (Kd.R_base ho0) hb); replace BK135 := xk BK135 hb; replace HR158 := Aside0.mk (Kd.C_below (by repeat (first | (with_reducible exact HR158.out) | (with_reducible refine Kd.C_alloc ?_ _) | (with_reducible refine Kd.C_drewN ?_ _) | (with_reducible refine Kd.C_drew ?_) | exact HR158.out)) hb); replace HB := xp HB hb; (try clear hb); (try clear hb2); (try clear hk); (try clear hi); (try clear ho0)) | ((with_reducible refine gate_builtin (b := .append) (xs := #[.tmp 37, .tmp 39]) rfl ?_); at_builtin; refine Kd.R_append (Kd.int .i64) (w0 := w) w.heap.size rfl (.tmp 37) (.tmp 39) 52 3 (.int .i64 0) 8 rfl Try.underlying52 info3 rfl (by decide) (by omega) v160 t159 x10_1 [.int .i64 x10_1] (fun k_ => nS k_ Ao35 x3_1.length co35) (fun _ => False) rfl rfl ?aP (fun _ hk => hk.elim) ?aF ?aO ?aB ?aS ?aL ?_; (case aP => exact rfl); (case aB => exact (xs HB.out)); (case aF => exact (fun k_ hk => Kd.fresh' (Kd.R_lt (xr HO_3.out)) k_ hk)); (case aO => exact (xm HO161 (fun _ hk => hk.2))); (case aS => exact (below_size (xs HB.out))); (case aL => have := LMc31.out; omega); intro v163 w38 ho hb hg hat; rw [← Ny162.out] at ho; replace BK135 := Aside0.mk (blk_grown (g := gb135) (o := .cells #[.int .i64 ((rd_T63 l0 x10_1).f0), .int .i64 ((rd_T63 l0 x10_1).f1), .int .i64 ((rd_T63 l0 x10_1).f2)] 63 (0, 0)) (xb BK135.out) hg (Kd.R_ne HO161.out BK135.out (by decide))); replace HB := Aside0.mk (hb); replace HR158 := Aside0.mk ((show Kd.C (Kd.int .i64) w38 Ao35 y155.length y155 from by rw [Ny155.out]; exact Kd.C_take (m := (x6_2 : Int).toNat) ((Kd.R_reads' (Kd.R_after (ok := (fun _ => True)) (xr HO_3.out) hg hat)).2.2) KL36.out)); replace HO_3 := Aside0.mk (Kd.R_after (ok := (fun _ => True)) (xr HO_3.out) hg hat); have HO164 := Aside0.mk (ho); clear HO161; clear ho hb hg hat; have q39 : (x6_2 : Int) ≤ ((x3_1.length : Int) : Int) := of_decide_eq_true (by first | (with_reducible assumption) | assumption); obtain ⟨i039, hi039, _, hsz39, _⟩ := info_parts info3; have hroom39 : x3_1.length ≤ co35 := (Kd.R_reads' HO_3.out).2.1; have hC39 : Kd.C (Kd.int .i64) _ Ao35 x3_1.length x3_1 := (Kd.R_reads' HO_3.out).2.2; have q039 : (0 : Int) ≤ (x6_2 : Int) := of_decide_eq_true (by first | (with_reducible assumption) | assumption); have hcut39 := cut_from (P := Try.prog) 52 3 .i64 Try.underlying52 hi039 1 hsz39 Ao35 x3_1.length co35 x6_2 q039 q39; have hr39 := Kd.C_drop (m := (x6_2 : Int).toNat) (c := co35) hC39 (by omega) hroom39; obtain ⟨A39, hA39⟩ : ∃ A1, A1 = (if co35 = (x6_2 : Int).toNat then Ao35 else (Ao35 : Option Addr).map (·.add ((x6_2 : Int).toNat * 1))) := ⟨_, rfl⟩; obtain ⟨c39, hc39⟩ : ∃ c1, c1 = co35 - (x6_2 : Int).toNat := ⟨_, rfl⟩; have hy39 : y165.length = x3_1.length - (x6_2 : Int).toNat := (by rw [Ny165.out, List.length_drop] <;> omega); rw [show (x3_1).drop (x6_2 : Int).toNat = y165 from Ny165.out.symm] at hr39; replace hr39 : Kd.C (Kd.int .i64) _ A39 y165.length y165 := (by rw [hA39]; exact hr39); rw [← hy39, ← hA39, ← hc39] at hcut39; have HR168 := Aside0.mk hr39; have HC168 := Aside0.mk (show y165.length ≤ c39 from by rw [hy39, hc39]; exact Nat.sub_le_sub_right hroom39 _); clear hr39 hC39 hroom39 hi039 hsz39 hc39; have KY39 := Aside0.mk hy39; have KA39 := Aside0.mk hA39; clear hy39 hA39; have KL39 := Aside0.mk (show (x6_2 : Int).toNat ≤ x3_1.length from by omega); replace q39 := eq_true q39) | ((with_reducible refine gate_builtin (b := .append) (xs := #[.tmp 41, .tmp 44]) rfl ?_); at_builtin; refine Kd.R_append_rows (Kd.int .i64) (w0 := w) w.heap.size rfl (.tmp 41) (.tmp 44) 52 3 (.int .i64 0) 8 rfl Try.underlying52 info3 rfl (by decide) (by omega) v163 y162 y165 _ _ _ (fun k_ => nS k_ Ao35 x3_1.length co35) (fun _ => False) rfl rfl ?aO ?aR (fun _ _ h => h) (fun _ h => h.elim) ?aF ?aB ?aS ?aL ?_; (case aR => repeat (first | exact (by repeat (first | (with_reducible exact HR168.out) | (with_reducible refine Kd.C_alloc ?_ _) | (with_reducible refine Kd.C_drewN ?_ _) | (with_reducible refine Kd.C_drew ?_) | exact HR168.out)) | (with_reducible refine Kd.C_alloc ?_ _) | (with_reducible refine Kd.C_drewN ?_ _) | (with_reducible refine Kd.C_drew ?_))); (case aB => exact (xs HB.out)); (case aF => exact (fun k_ hk => Kd.fresh' (Kd.R_lt (xr HO_3.out)) k_ hk)); (case aO => exact (xr HO164.out)); (case aS => exact (below_size (xs HB.out))); (case aL => have := LMc34.out; omega); intro v170 w40 ho hb hg hat; rw [← Ny169.out] at ho; replace BK135 := Aside0.mk (blk_grown (g := gb135) (o := .cells #[.int .i64 ((rd_T63 l0 x10_1).f0), .int .i64 ((rd_T63 l0 x10_1).f1), .int .i64 ((rd_T63 l0 x10_1).f2)] 63 (0, 0)) (xb BK135.out) hg (Kd.R_ne HO164.out BK135.out (by decide))); replace HB := Aside0.mk (hb); replace HR158 := Aside0.mk ((show Kd.C (Kd.int .i64) w40 Ao35 y155.length y155 from by rw [Ny155.out]; exact Kd.C_take (m := (x6_2 : Int).toNat) ((Kd.R_reads' (Kd.R_after (ok := (fun _ => True)) (xr HO_3.out) hg hat)).2.2) KL36.out)); replace HR168 := Aside0.mk ((show Kd.C (Kd.int .i64) w40 A39 y165.length y165 from by rw [Ny165.out, KA39.out]; exact Kd.C_drop (m := (x6_2 : Int).toNat) (c := co35) ((Kd.R_reads' (Kd.R_after (ok := (fun _ => True)) (xr HO_3.out) hg hat)).2.2) KL39.out ((Kd.R_reads' (Kd.R_after (ok := (fun _ => True)) (xr HO_3.out) hg hat)).2.1))); replace HO_3 := Aside0.mk (Kd.R_after (ok := (fun _ => True)) (xr HO_3.out) hg hat); have HO171 := Aside0.mk (ho); clear HO164; clear ho hb hg hat))
             repeat (go_quiet (first | (go_at_call 98; (with_reducible refine (spec_l1Own.calls _ _ y155 t159 _ ?side1 ?side2 A30.out).mono ?_); (case side1 => repeat (first | exact (by repeat (first | (with_reducible exact HR158.out) | (with_reducible refine Kd.C_alloc ?_ _) | (with_reducible refine Kd.C_drewN ?_ _) | (with_reducible refine Kd.C_drew ?_) | exact HR158.out)) | (with_reducible refine Kd.C_alloc ?_ _) | (with_reducible refine Kd.C_drewN ?_ _) | (with_reducible refine Kd.C_drew ?_))); (case side2 => exact HC158.out); rintro e w37 ⟨v160, rfl, ho0, hb⟩; have HO161 := Aside0.mk (Kd.R_lower (Kd.R_new' ho0 (Kd.R_lt (xr HO_3.out))) (below_size (xs HB.out))); replace HO_3 := Aside0.mk (Kd.R_elder' (xr HO_3.out) (Kd.R_base ho0) hb); replace BK135 := xk BK135 hb; replace HR158 := Aside0.mk (Kd.C_below (by repeat (first | (with_reducible exact HR158.out) | (with_reducible refine Kd.C_alloc ?_ _) | (with_reducible refine Kd.C_drewN ?_ _) | (with_reducible refine Kd.C_drew ?_) | exact HR158.out)) hb); replace HB := xp HB hb; (try clear hb); (try clear hb2); (try clear hk); (try clear hi); (try clear ho0)) | ((with_reducible refine gate_builtin (b := .append) (xs := #[.tmp 37, .tmp 39]) rfl ?_); at_builtin; refine Kd.R_append (Kd.int .i64) (w0 := w) w.heap.size rfl (.tmp 37) (.tmp 39) 52 3 (.int .i64 0) 8 rfl Try.underlying52 info3 rfl (by decide) (by omega) v160 t159 x10_1 [.int .i64 x10_1] (fun k_ => nS k_ Ao35 x3_1.length co35) (fun _ => False) rfl rfl ?aP (fun _ hk => hk.elim) ?aF ?aO ?aB ?aS ?aL ?_; (case aP => exact rfl); (case aB => exact (xs HB.out)); (case aF => exact (fun k_ hk => Kd.fresh' (Kd.R_lt (xr HO_3.out)) k_ hk)); (case aO => exact (xm HO161 (fun _ hk => hk.2))); (case aS => exact (below_size (xs HB.out))); (case aL => have := LMc31.out; omega); intro v163 w38 ho hb hg hat; rw [← Ny162.out] at ho; replace BK135 := Aside0.mk (blk_grown (g := gb135) (o := .cells #[.int .i64 ((rd_T63 l0 x10_1).f0), .int .i64 ((rd_T63 l0 x10_1).f1), .int .i64 ((rd_T63 l0 x10_1).f2)] 63 (0, 0)) (xb BK135.out) hg (Kd.R_ne HO161.out BK135.out (by decide))); replace HB := Aside0.mk (hb); replace HR158 := Aside0.mk ((show Kd.C (Kd.int .i64) w38 Ao35 y155.length y155 from by rw [Ny155.out]; exact Kd.C_take (m := (x6_2 : Int).toNat) ((Kd.R_reads' (Kd.R_after (ok := (fun _ => True)) (xr HO_3.out) hg hat)).2.2) KL36.out)); replace HO_3 := Aside0.mk (Kd.R_after (ok := (fun _ => True)) (xr HO_3.out) hg hat); have HO164 := Aside0.mk (ho); clear HO161; clear ho hb hg hat; have q39 : (x6_2 : Int) ≤ ((x3_1.length : Int) : Int) := of_decide_eq_true (by first | (with_reducible assumption) | assumption); obtain ⟨i039, hi039, _, hsz39, _⟩ := info_parts info3; have hroom39 : x3_1.length ≤ co35 := (Kd.R_reads' HO_3.out).2.1; have hC39 : Kd.C (Kd.int .i64) _ Ao35 x3_1.length x3_1 := (Kd.R_reads' HO_3.out).2.2; have q039 : (0 : Int) ≤ (x6_2 : Int) := of_decide_eq_true (by first | (with_reducible assumption) | assumption); have hcut39 := cut_from (P := Try.prog) 52 3 .i64 Try.underlying52 hi039 1 hsz39 Ao35 x3_1.length co35 x6_2 q039 q39; have hr39 := Kd.C_drop (m := (x6_2 : Int).toNat) (c := co35) hC39 (by omega) hroom39; obtain ⟨A39, hA39⟩ : ∃ A1, A1 = (if co35 = (x6_2 : Int).toNat then Ao35 else (Ao35 : Option Addr).map (·.add ((x6_2 : Int).toNat * 1))) := ⟨_, rfl⟩; obtain ⟨c39, hc39⟩ : ∃ c1, c1 = co35 - (x6_2 : Int).toNat := ⟨_, rfl⟩; have hy39 : y165.length = x3_1.length - (x6_2 : Int).toNat := (by rw [Ny165.out, List.length_drop] <;> omega); rw [show (x3_1).drop (x6_2 : Int).toNat = y165 from Ny165.out.symm] at hr39; replace hr39 : Kd.C (Kd.int .i64) _ A39 y165.length y165 := (by rw [hA39]; exact hr39); rw [← hy39, ← hA39, ← hc39] at hcut39; have HR168 := Aside0.mk hr39; have HC168 := Aside0.mk (show y165.length ≤ c39 from by rw [hy39, hc39]; exact Nat.sub_le_sub_right hroom39 _); clear hr39 hC39 hroom39 hi039 hsz39 hc39; have KY39 := Aside0.mk hy39; have KA39 := Aside0.mk hA39; clear hy39 hA39; have KL39 := Aside0.mk (show (x6_2 : Int).toNat ≤ x3_1.length from by omega); replace q39 := eq_true q39) | ((with_reducible refine gate_builtin (b := .append) (xs := #[.tmp 41, .tmp 44]) rfl ?_); at_builtin; refine Kd.R_append_rows (Kd.int .i64) (w0 := w) w.heap.size rfl (.tmp 41) (.tmp 44) 52 3 (.int .i64 0) 8 rfl Try.underlying52 info3 rfl (by decide) (by omega) v163 y162 y165 _ _ _ (fun k_ => nS k_ Ao35 x3_1.length co35) (fun _ => False) rfl rfl ?aO ?aR (fun _ _ h => h) (fun _ h => h.elim) ?aF ?aB ?aS ?aL ?_; (case aR => repeat (first | exact (by repeat (first | (with_reducible exact HR168.out) | (with_reducible refine Kd.C_alloc ?_ _) | (with_reducible refine Kd.C_drewN ?_ _) | (with_reducible refine Kd.C_drew ?_) | exact HR168.out)) | (with_reducible refine Kd.C_alloc ?_ _) | (with_reducible refine Kd.C_drewN ?_ _) | (with_reducible refine Kd.C_drew ?_))); (case aB => exact (xs HB.out)); (case aF => exact (fun k_ hk => Kd.fresh' (Kd.R_lt (xr HO_3.out)) k_ hk)); (case aO => exact (xr HO164.out)); (case aS => exact (below_size (xs HB.out))); (case aL => have := LMc34.out; omega); intro v170 w40 ho hb hg hat; rw [← Ny169.out] at ho; replace BK135 := Aside0.mk (blk_grown (g := gb135) (o := .cells #[.int .i64 ((rd_T63 l0 x10_1).f0), .int .i64 ((rd_T63 l0 x10_1).f1), .int .i64 ((rd_T63 l0 x10_1).f2)] 63 (0, 0)) (xb BK135.out) hg (Kd.R_ne HO164.out BK135.out (by decide))); replace HB := Aside0.mk (hb); replace HR158 := Aside0.mk ((show Kd.C (Kd.int .i64) w40 Ao35 y155.length y155 from by rw [Ny155.out]; exact Kd.C_take (m := (x6_2 : Int).toNat) ((Kd.R_reads' (Kd.R_after (ok := (fun _ => True)) (xr HO_3.out) hg hat)).2.2) KL36.out)); replace HR168 := Aside0.mk ((show Kd.C (Kd.int .i64) w40 A39 y165.length y165 from by rw [Ny165.out, KA39.out]; exact Kd.C_drop (m := (x6_2 : Int).toNat) (c := co35) ((Kd.R_reads' (Kd.R_after (ok := (fun _ => True)) (xr HO_3.out) hg hat)).2.2) KL39.out ((Kd.R_reads' (Kd.R_after (ok := (fun _ => True)) (xr HO_3.out) hg hat)).2.1))); replace HO_3 := Aside0.mk (Kd.R_after (ok := (fun _ => True)) (xr HO_3.out) hg hat); have HO171 := Aside0.mk (ho); clear HO164; clear ho hb hg hat)); try go_wp2_with (first | (go_at_call 98; (with_reducible refine (spec_l1Own.calls _ _ y155 t159 _ ?side1 ?side2 A30.out).mono ?_); (case side1 => repeat (first | exact (by repeat (first | (with_reducible exact HR158.out) | (with_reducible refine Kd.C_alloc ?_ _) | (with_reducible refine Kd.C_drewN ?_ _) | (with_reducible refine Kd.C_drew ?_) | exact HR158.out)) | (with_reducible refine Kd.C_alloc ?_ _) | (with_reducible refine Kd.C_drewN ?_ _) | (with_reducible refine Kd.C_drew ?_))); (case side2 => exact HC158.out); rintro e w37 ⟨v160, rfl, ho0, hb⟩; have HO161 := Aside0.mk (Kd.R_lower (Kd.R_new' ho0 (Kd.R_lt (xr HO_3.out))) (below_size (xs HB.out))); replace HO_3 := Aside0.mk (Kd.R_elder' (xr HO_3.out) (Kd.R_base ho0) hb); replace BK135 := xk BK135 hb; replace HR158 := Aside0.mk (Kd.C_below (by repeat (first | (with_reducible exact HR158.out) | (with_reducible refine Kd.C_alloc ?_ _) | (with_reducible refine Kd.C_drewN ?_ _) | (with_reducible refine Kd.C_drew ?_) | exact HR158.out)) hb); replace HB := xp HB hb; (try clear hb); (try clear hb2); (try clear hk); (try clear hi); (try clear ho0)) | ((with_reducible refine gate_builtin (b := .append) (xs := #[.tmp 37, .tmp 39]) rfl ?_); at_builtin; refine Kd.R_append (Kd.int .i64) (w0 := w) w.heap.size rfl (.tmp 37) (.tmp 39) 52 3 (.int .i64 0) 8 rfl Try.underlying52 info3 rfl (by decide) (by omega) v160 t159 x10_1 [.int .i64 x10_1] (fun k_ => nS k_ Ao35 x3_1.length co35) (fun _ => False) rfl rfl ?aP (fun _ hk => hk.elim) ?aF ?aO ?aB ?aS ?aL ?_; (case aP => exact rfl); (case aB => exact (xs HB.out)); (case aF => exact (fun k_ hk => Kd.fresh' (Kd.R_lt (xr HO_3.out)) k_ hk)); (case aO => exact (xm HO161 (fun _ hk => hk.2))); (case aS => exact (below_size (xs HB.out))); (case aL => have := LMc31.out; omega); intro v163 w38 ho hb hg hat; rw [← Ny162.out] at ho; replace BK135 := Aside0.mk (blk_grown (g := gb135) (o := .cells #[.int .i64 ((rd_T63 l0 x10_1).f0), .int .i64 ((rd_T63 l0 x10_1).f1), .int .i64 ((rd_T63 l0 x10_1).f2)] 63 (0, 0)) (xb BK135.out) hg (Kd.R_ne HO161.out BK135.out (by decide))); replace HB := Aside0.mk (hb); replace HR158 := Aside0.mk ((show Kd.C (Kd.int .i64) w38 Ao35 y155.length y155 from by rw [Ny155.out]; exact Kd.C_take (m := (x6_2 : Int).toNat) ((Kd.R_reads' (Kd.R_after (ok := (fun _ => True)) (xr HO_3.out) hg hat)).2.2) KL36.out)); replace HO_3 := Aside0.mk (Kd.R_after (ok := (fun _ => True)) (xr HO_3.out) hg hat); have HO164 := Aside0.mk (ho); clear HO161; clear ho hb hg hat; have q39 : (x6_2 : Int) ≤ ((x3_1.length : Int) : Int) := of_decide_eq_true (by first | (with_reducible assumption) | assumption); obtain ⟨i039, hi039, _, hsz39, _⟩ := info_parts info3; have hroom39 : x3_1.length ≤ co35 := (Kd.R_reads' HO_3.out).2.1; have hC39 : Kd.C (Kd.int .i64) _ Ao35 x3_1.length x3_1 := (Kd.R_reads' HO_3.out).2.2; have q039 : (0 : Int) ≤ (x6_2 : Int) := of_decide_eq_true (by first | (with_reducible assumption) | assumption); have hcut39 := cut_from (P := Try.prog) 52 3 .i64 Try.underlying52 hi039 1 hsz39 Ao35 x3_1.length co35 x6_2 q039 q39; have hr39 := Kd.C_drop (m := (x6_2 : Int).toNat) (c := co35) hC39 (by omega) hroom39; obtain ⟨A39, hA39⟩ : ∃ A1, A1 = (if co35 = (x6_2 : Int).toNat then Ao35 else (Ao35 : Option Addr).map (·.add ((x6_2 : Int).toNat * 1))) := ⟨_, rfl⟩; obtain ⟨c39, hc39⟩ : ∃ c1, c1 = co35 - (x6_2 : Int).toNat := ⟨_, rfl⟩; have hy39 : y165.length = x3_1.length - (x6_2 : Int).toNat := (by rw [Ny165.out, List.length_drop] <;> omega); rw [show (x3_1).drop (x6_2 : Int).toNat = y165 from Ny165.out.symm] at hr39; replace hr39 : Kd.C (Kd.int .i64) _ A39 y165.length y165 := (by rw [hA39]; exact hr39); rw [← hy39, ← hA39, ← hc39] at hcut39; have HR168 := Aside0.mk hr39; have HC168 := Aside0.mk (show y165.length ≤ c39 from by rw [hy39, hc39]; exact Nat.sub_le_sub_right hroom39 _); clear hr39 hC39 hroom39 hi039 hsz39 hc39; have KY39 := Aside0.mk hy39; have KA39 := Aside0.mk hA39; clear hy39 hA39; have KL39 := Aside0.mk (show (x6_2 : Int).toNat ≤ x3_1.length from by omega); replace q39 := eq_true q39) | ((with_reducible refine gate_builtin (b := .append) (xs := #[.tmp 41, .tmp 44]) rfl ?_); at_builtin; refine Kd.R_append_rows (Kd.int .i64) (w0 := w) w.heap.size rfl (.tmp 41) (.tmp 44) 52 3 (.int .i64 0) 8 rfl Try.underlying52 info3 rfl (by decide) (by omega) v163 y162 y165 _ _ _ (fun k_ => nS k_ Ao35 x3_1.length co35) (fun _ => False) rfl rfl ?aO ?aR (fun _ _ h => h) (fun _ h => h.elim) ?aF ?aB ?aS ?aL ?_; (case aR => repeat (first | exact (by repeat (first | (with_reducible exact HR168.out) | (with_reducible refine Kd.C_alloc ?_ _) | (with_reducible refine Kd.C_drewN ?_ _) | (with_reducible refine Kd.C_drew ?_) | exact HR168.out)) | (with_reducible refine Kd.C_alloc ?_ _) | (with_reducible refine Kd.C_drewN ?_ _) | (with_reducible refine Kd.C_drew ?_))); (case aB => exact (xs HB.out)); (case aF => exact (fun k_ hk => Kd.fresh' (Kd.R_lt (xr HO_3.out)) k_ hk)); (case aO => exact (xr HO164.out)); (case aS => exact (below_size (xs HB.out))); (case aL => have := LMc34.out; omega); intro v170 w40 ho hb hg hat; rw [← Ny169.out] at ho; replace BK135 := Aside0.mk (blk_grown (g := gb135) (o := .cells #[.int .i64 ((rd_T63 l0 x10_1).f0), .int .i64 ((rd_T63 l0 x10_1).f1), .int .i64 ((rd_T63 l0 x10_1).f2)] 63 (0, 0)) (xb BK135.out) hg (Kd.R_ne HO164.out BK135.out (by decide))); replace HB := Aside0.mk (hb); replace HR158 := Aside0.mk ((show Kd.C (Kd.int .i64) w40 Ao35 y155.length y155 from by rw [Ny155.out]; exact Kd.C_take (m := (x6_2 : Int).toNat) ((Kd.R_reads' (Kd.R_after (ok := (fun _ => True)) (xr HO_3.out) hg hat)).2.2) KL36.out)); replace HR168 := Aside0.mk ((show Kd.C (Kd.int .i64) w40 A39 y165.length y165 from by rw [Ny165.out, KA39.out]; exact Kd.C_drop (m := (x6_2 : Int).toNat) (c := co35) ((Kd.R_reads' (Kd.R_after (ok := (fun _ => True)) (xr HO_3.out) hg hat)).2.2) KL39.out ((Kd.R_reads' (Kd.R_after (ok := (fun _ => True)) (xr HO_3.out) hg hat)).2.1))); replace HO_3 := Aside0.mk (Kd.R_after (ok := (fun _ => True)) (xr HO_3.out) hg hat); have HO171 := Aside0.mk (ho); clear HO164; clear ho hb hg hat)))
             go_roundg k2
             case measure => have := HK1.out; have := HK2.out; omega
             case rel => exact ⟨(y169), (wrap64 (x10_1 + 1)), (by first | rfl | (simp; done) | (simp [*]; done)), H', ⟨by have := HK1.out; have := HK2.out; omega⟩, ⟨xm HO171 (fun _ hk => trivial)⟩, ⟨xs HB.out⟩⟩
            ·rw [if_neg c34] at H
             exact absurd H (by simp)
           ·rw [if_neg c31] at H
            exact absurd H (by simp)
          ·rw [if_neg c29] at H
           exact absurd H (by simp)
         ·rw [if_neg c28] at H
          exact absurd H (by simp)
     ·rw [if_neg c4] at H
      exact absurd H (by simp)
    ·rw [if_neg c3] at H
     exact absurd H (by simp)
   ·rw [if_neg c2] at H
    have c2b0 : decide (x10_1 < (l0.length : Int)) = false := decide_eq_false c2
    clear c2
    obtain rfl := Option.some.inj H
    go_wp2
    repeat (go_quiet (fail); try go_wp2)
    go_ret
    exact ⟨_, by first | rfl | (simp [errW_none, errW_some] <;> rfl) | (simp [*, errW_none, errW_some] <;> rfl), by (with_reducible repeat (first | apply Kd.R_alloc | apply Kd.R_drewN | apply Kd.R_drew)); exact HO_3.out, by repeat (first | (with_reducible first | exact HB.out | apply below_alloc | apply pw_below_drewN | apply below_drew1) | exact HB.out)⟩

/-! ### spec_FloodOrder: function 39 -/
def spec_FloodOrder.f (k : Nat) (l0 : List (S63)) : Option (List Int × Bool) := (spec_leTanks.f k l0).bind fun t172 => (if t172 = true then ((spec_leOrder.f k l0).bind fun t173 => (some (t173, true))) else (some (([] : List Int), false)))
theorem spec_FloodOrder.mono : ∀ a0 k, LeO (spec_FloodOrder.f k a0) (spec_FloodOrder.f (k + 1) a0) := by
 intro a0 k
 unfold spec_FloodOrder.f
 repeat' first
   | (with_reducible exact spec_leOrder.mono _ _)
   | (with_reducible exact spec_leTanks.mono _ _)
   | (with_reducible exact LeO.refl _)
   | (with_reducible exact LeO.none _)
   | (with_reducible refine LeO.ite ?_ ?_)
   | (with_reducible refine LeO.bind ?_ (fun _ => ?_))
   | exact spec_leOrder.mono _ _
   | exact spec_leTanks.mono _ _
   | exact LeO.none _
   | refine LeO.ite ?_ ?_
   | refine LeO.bind ?_ (fun _ => ?_)
set_option maxHeartbeats 8000000 in
set_option maxRecDepth 100000 in
theorem spec_FloodOrder.calls (k : Nat) (A0 : Option Addr) (c0 : Nat) (l0 : List (S63)) (r1 : List Int) (r2 : Bool) (w : World) (hr0 : Kd.C k63 w A0 l0.length l0) (hc0 : l0.length ≤ c0) (h : spec_FloodOrder.f k l0 = some (r1, r2)) :
  Calls Try.prog 39 #[.slice A0 l0.length c0] w fun e w' => ∃ v0_ : Value, e = .returned (.tuple #[v0_, .bool r2]) ∧ Kd.R (Kd.int .i64) 3 w' w.heap.size (fun _ => True) v0_ r1 ∧ Below w.heap.size w w' := by
 have HR0 := Aside0.mk hr0
 have HC0 := Aside0.mk hc0
 clear hr0 hc0
 have HB := Aside0.mk (Below.refl w.heap.size w)
 have H : ((spec_leTanks.f k l0).bind fun t172 => (if t172 = true then ((spec_leOrder.f k l0).bind fun t173 => (some (t173, true))) else (some (([] : List Int), false)))) = some (r1, r2) := h
 clear h
 replace H := Option.bind_eq_some_iff.mp H
 obtain ⟨t172, A20, H⟩ := H
 replace H : (if t172 = true then ((spec_leOrder.f k l0).bind fun t173 => (some (t173, true))) else (some (([] : List Int), false))) = some (r1, r2) := H
 have A2 := Aside0.mk A20
 clear A20
 by_cases c3 : t172 = true
 ·subst c3
  have H1 : ((spec_leOrder.f k l0).bind fun t173 => (some (t173, true))) = some (r1, r2) := by rw [if_pos rfl] at H; exact H
  clear H
  have H := H1
  clear H1
  replace H := Option.bind_eq_some_iff.mp H
  obtain ⟨t173, A40, H⟩ := H
  replace H : (some (t173, true)) = some (r1, r2) := H
  have A4 := Aside0.mk A40
  clear A40
  simp only [Option.some.injEq, Prod.mk.injEq] at H
  obtain ⟨rfl, rfl⟩ := H
  go_enter Try.func39, Try.ntmps39
  go_wp2_with (first | ((with_reducible refine gate_callee (f := 50) rfl ?_); refine goesL_ (some 5) rfl rfl Try.func50 (by kernel_rfl) rfl #[.slice A0 l0.length c0] rfl (by (try simp only [List.map_toArray, List.map_cons, List.map_nil]); first | done | rfl | (simp only [List.length_drop, List.length_take]; rfl)) ?_; (with_reducible refine (spec_leTanks.calls k _ _ l0 true _ ?side1 ?side2 A2.out).mono ?_); (case side1 => exact xd (HR0.out)); (case side2 => exact HC0.out); rintro e w5 ⟨rfl, hb⟩; refine ⟨_, rfl, ?_⟩; replace HB := xp HB hb; (try clear hb); (try clear hb2); (try clear hk); (try clear hi)) | ((with_reducible refine gate_callee (f := 70) rfl ?_); refine goesL_ (some 8) rfl rfl Try.func70 (by kernel_rfl) rfl #[.slice A0 l0.length c0] rfl (by (try simp only [List.map_toArray, List.map_cons, List.map_nil]); first | done | rfl | (simp only [List.length_drop, List.length_take]; rfl)) ?_; (with_reducible refine (spec_leOrder.calls k _ _ l0 t173 _ ?side1 ?side2 A4.out).mono ?_); (case side1 => exact xd ((Kd.C_below HR0.out HB.out))); (case side2 => exact HC0.out); rintro e w6 ⟨v174, rfl, ho0, hb⟩; refine ⟨_, rfl, ?_⟩; have HO175 := Aside0.mk (Kd.R_lower ho0 (below_size (xs HB.out))); replace HB := xp HB hb; (try clear hb); (try clear hb2); (try clear hk); (try clear hi); (try clear ho0)))
  go_ret2
  exact ⟨_, by first | rfl | (simp [errW_none, errW_some] <;> rfl) | (simp [*, errW_none, errW_some] <;> rfl), by (with_reducible repeat (first | apply Kd.R_alloc | apply Kd.R_drewN | apply Kd.R_drew)); exact HO175.out, by repeat (first | (with_reducible first | exact HB.out | apply below_alloc | apply pw_below_drewN | apply below_drew1) | exact HB.out)⟩
 ·replace c3 := Bool.eq_false_iff.mpr c3
  subst c3
  have H1 : (some (([] : List Int), false)) = some (r1, r2) := by rw [if_neg (show ¬ (false = true) by decide)] at H; exact H
  clear H
  have H := H1
  clear H1
  simp only [Option.some.injEq, Prod.mk.injEq] at H
  obtain ⟨rfl, rfl⟩ := H
  go_enter Try.func39, Try.ntmps39
  go_wp2_with (first | ((with_reducible refine gate_callee (f := 50) rfl ?_); refine goesL_ (some 5) rfl rfl Try.func50 (by kernel_rfl) rfl #[.slice A0 l0.length c0] rfl (by (try simp only [List.map_toArray, List.map_cons, List.map_nil]); first | done | rfl | (simp only [List.length_drop, List.length_take]; rfl)) ?_; (with_reducible refine (spec_leTanks.calls k _ _ l0 false _ ?side1 ?side2 A2.out).mono ?_); (case side1 => exact xd (HR0.out)); (case side2 => exact HC0.out); rintro e w7 ⟨rfl, hb⟩; refine ⟨_, rfl, ?_⟩; replace HB := xp HB hb; (try clear hb); (try clear hb2); (try clear hk); (try clear hi)))
  go_ret2
  exact ⟨_, by first | rfl | (simp [errW_none, errW_some] <;> rfl) | (simp [*, errW_none, errW_some] <;> rfl), by first | exact Kd.R_nil _ _ _ _ _ | exact Kd.N_nil _ _ _ _ _ | exact Kd.V_nil _ _ _ _ _ | exact Kd.Q_nil _ _ _ _ _ | exact Kd.S_nil _ _ _ _ _, by repeat (first | (with_reducible first | exact HB.out | apply below_alloc | apply pw_below_drewN | apply below_drew1) | exact HB.out)⟩

/-! ### impl_within: function 85 -/
def impl_within.f (a0 : Int) (a1 : Int) (a2 : Int) : Option (Bool) := if a1 ≤ a0 then (some (decide (a0 ≤ a2))) else (some false)
set_option maxHeartbeats 8000000 in
set_option maxRecDepth 100000 in
theorem impl_within.calls (a0 : Int) (a1 : Int) (a2 : Int) (r : Bool) (w : World) (h : impl_within.f a0 a1 a2 = some r) :
  Calls Try.prog 85 #[.int .i64 a0, .int .i64 a1, .int .i64 a2] w fun e w' => e = .returned (.bool r) ∧ Drawn0 w w' := by
 have H : (if a1 ≤ a0 then (some (decide (a0 ≤ a2))) else (some false)) = some r := h
 clear h
 by_cases c4 : a1 ≤ a0
 ·rw [if_pos c4] at H
  have c4b0 : decide (a1 ≤ a0) = true := decide_eq_true c4
  clear c4
  obtain rfl := Option.some.inj H
  go_enter Try.func85, Try.ntmps85
  go_wp2
  go_ret
  exact ⟨by first | rfl | (simp; done) | (simp [*]; done), by repeat (first | exact Drawn0.refl _ | apply Drawn0.step)⟩
 ·rw [if_neg c4] at H
  have c4b0 : decide (a1 ≤ a0) = false := decide_eq_false c4
  clear c4
  obtain rfl := Option.some.inj H
  go_enter Try.func85, Try.ntmps85
  go_wp2
  go_ret
  exact ⟨by first | rfl | (simp; done) | (simp [*]; done), by repeat (first | exact Drawn0.refl _ | apply Drawn0.step)⟩

-- NOT PRINTED: function 108 (impl_Tank_108)

-- NOT PRINTED: function 86 (impl_Tank_86)

/-! ### impl_IsTank: function 88 -/
def impl_IsTank.f (a0_0 : Int) (a0_1 : Int) (a0_2 : Int) : Option (Bool) := (impl_within.f a0_0 1 50).bind fun t177 => (if t177 = true then ((impl_within.f a0_1 0 100).bind fun t178 => (if t178 = true then ((impl_within.f a0_2 0 10000).bind fun t179 => (some t179)) else (some false))) else (some false))
set_option maxHeartbeats 8000000 in
set_option maxRecDepth 100000 in
theorem impl_IsTank.calls (a0_0 : Int) (a0_1 : Int) (a0_2 : Int) (r : Bool) (w : World) (h : impl_IsTank.f a0_0 a0_1 a0_2 = some r) :
  Calls Try.prog 88 #[.agg #[.int .i64 a0_0, .int .i64 a0_1, .int .i64 a0_2]] w fun e w' => e = .returned (.bool r) ∧ Below w.heap.size w w' := by
 have hu63 := Try.underlying63
 have HB := Aside0.mk (Below.refl w.heap.size w)
 have H : ((impl_within.f a0_0 1 50).bind fun t177 => (if t177 = true then ((impl_within.f a0_1 0 100).bind fun t178 => (if t178 = true then ((impl_within.f a0_2 0 10000).bind fun t179 => (some t179)) else (some false))) else (some false))) = some r := h
 clear h
 replace H := Option.bind_eq_some_iff.mp H
 obtain ⟨t177, A20, H⟩ := H
 replace H : (if t177 = true then ((impl_within.f a0_1 0 100).bind fun t178 => (if t178 = true then ((impl_within.f a0_2 0 10000).bind fun t179 => (some t179)) else (some false))) else (some false)) = some r := H
 have A2 := Aside0.mk A20
 clear A20
 by_cases c3 : t177 = true
 ·subst c3
  have H1 : ((impl_within.f a0_1 0 100).bind fun t178 => (if t178 = true then ((impl_within.f a0_2 0 10000).bind fun t179 => (some t179)) else (some false))) = some r := by rw [if_pos rfl] at H; exact H
  clear H
  have H := H1
  clear H1
  replace H := Option.bind_eq_some_iff.mp H
  obtain ⟨t178, A40, H⟩ := H
  replace H : (if t178 = true then ((impl_within.f a0_2 0 10000).bind fun t179 => (some t179)) else (some false)) = some r := H
  have A4 := Aside0.mk A40
  clear A40
  by_cases c5 : t178 = true
  ·subst c5
   have H1 : ((impl_within.f a0_2 0 10000).bind fun t179 => (some t179)) = some r := by rw [if_pos rfl] at H; exact H
   clear H
   have H := H1
   clear H1
   replace H := Option.bind_eq_some_iff.mp H
   obtain ⟨t179, A60, H⟩ := H
   replace H : (some t179) = some r := H
   have A6 := Aside0.mk A60
   clear A60
   obtain rfl := Option.some.inj H
   go_enter Try.func88, Try.ntmps88
   go_wp2_with (first | ((with_reducible refine gate_dst (N := 1) rfl ?_); refine box_event ?hg (N := 1) ?hd (cs := #[.int .i64 a0_0, .int .i64 a0_1, .int .i64 a0_2]) (t := 63) ?hr ?_; (case hd => rfl); (case hg => rfl); (case hr => first | (go_simp; done) | (go_simp; rfl)); intro gb176 hg w7 hbox hb; have BK176 := Aside0.mk (hbox); have GW176 := xg HB hg; have GE176 := xg HB hg; replace HB := xp HB hb; clear hb hbox hg; have hcz8_0 : w7.cell? ⟨gb176, 0, none⟩ = some (.int .i64 a0_0) := (blk_cell BK176.out 0).trans rfl; have hcz8_1 : w7.cell? ⟨gb176, 1, none⟩ = some (.int .i64 a0_1) := (blk_cell BK176.out 1).trans rfl; have hcz8_2 : w7.cell? ⟨gb176, 2, none⟩ = some (.int .i64 a0_2) := (blk_cell BK176.out 2).trans rfl; have hfz8_0 := blk_frozen BK176.out 0; have hfz8_1 := blk_frozen BK176.out 1; have hfz8_2 := blk_frozen BK176.out 2) | ((with_reducible refine gate_callee (f := 85) rfl ?_); refine goesL_ (some 5) rfl rfl Try.func85 (by kernel_rfl) rfl #[.int .i64 a0_0, .int .i64 1, .int .i64 50] rfl (by (try simp only [List.map_toArray, List.map_cons, List.map_nil]); first | done | rfl | (simp only [List.length_drop, List.length_take]; rfl)) ?_; (with_reducible refine (impl_within.calls a0_0 1 50 true _ A2.out).mono ?_); rintro e w' ⟨rfl, ⟨nd, rfl⟩⟩; refine ⟨_, rfl, ?_⟩) | (go_at_call 85; (with_reducible refine (impl_within.calls a0_1 0 100 true _ A4.out).mono ?_); rintro e w' ⟨rfl, ⟨nd, rfl⟩⟩) | (go_at_call 85; (with_reducible refine (impl_within.calls a0_2 0 10000 t179 _ A6.out).mono ?_); rintro e w' ⟨rfl, ⟨nd, rfl⟩⟩))
   go_ret
   exact ⟨by first | rfl | (simp [errW_none, errW_some] <;> rfl) | (simp [*, errW_none, errW_some] <;> rfl), by repeat (first | (with_reducible first | exact HB.out | apply below_alloc | apply pw_below_drewN | apply below_drew1 | refine below_set ?_ GE176.out) | exact HB.out)⟩
  ·replace c5 := Bool.eq_false_iff.mpr c5
   subst c5
   have H1 : (some false) = some r := by rw [if_neg (show ¬ (false = true) by decide)] at H; exact H
   clear H
   have H := H1
   clear H1
   obtain rfl := Option.some.inj H
   go_enter Try.func88, Try.ntmps88
   go_wp2_with (first | ((with_reducible refine gate_dst (N := 1) rfl ?_); refine box_event ?hg (N := 1) ?hd (cs := #[.int .i64 a0_0, .int .i64 a0_1, .int .i64 a0_2]) (t := 63) ?hr ?_; (case hd => rfl); (case hg => rfl); (case hr => first | (go_simp; done) | (go_simp; rfl)); intro gb176 hg w9 hbox hb; have BK176 := Aside0.mk (hbox); have GW176 := xg HB hg; have GE176 := xg HB hg; replace HB := xp HB hb; clear hb hbox hg; have hcz10_0 : w9.cell? ⟨gb176, 0, none⟩ = some (.int .i64 a0_0) := (blk_cell BK176.out 0).trans rfl; have hcz10_1 : w9.cell? ⟨gb176, 1, none⟩ = some (.int .i64 a0_1) := (blk_cell BK176.out 1).trans rfl; have hcz10_2 : w9.cell? ⟨gb176, 2, none⟩ = some (.int .i64 a0_2) := (blk_cell BK176.out 2).trans rfl; have hfz10_0 := blk_frozen BK176.out 0; have hfz10_1 := blk_frozen BK176.out 1; have hfz10_2 := blk_frozen BK176.out 2) | ((with_reducible refine gate_callee (f := 85) rfl ?_); refine goesL_ (some 5) rfl rfl Try.func85 (by kernel_rfl) rfl #[.int .i64 a0_0, .int .i64 1, .int .i64 50] rfl (by (try simp only [List.map_toArray, List.map_cons, List.map_nil]); first | done | rfl | (simp only [List.length_drop, List.length_take]; rfl)) ?_; (with_reducible refine (impl_within.calls a0_0 1 50 true _ A2.out).mono ?_); rintro e w' ⟨rfl, ⟨nd, rfl⟩⟩; refine ⟨_, rfl, ?_⟩) | (go_at_call 85; (with_reducible refine (impl_within.calls a0_1 0 100 false _ A4.out).mono ?_); rintro e w' ⟨rfl, ⟨nd, rfl⟩⟩))
   go_ret
   exact ⟨by first | rfl | (simp [errW_none, errW_some] <;> rfl) | (simp [*, errW_none, errW_some] <;> rfl), by repeat (first | (with_reducible first | exact HB.out | apply below_alloc | apply pw_below_drewN | apply below_drew1 | refine below_set ?_ GE176.out) | exact HB.out)⟩
 ·replace c3 := Bool.eq_false_iff.mpr c3
  subst c3
  have H1 : (some false) = some r := by rw [if_neg (show ¬ (false = true) by decide)] at H; exact H
  clear H
  have H := H1
  clear H1
  obtain rfl := Option.some.inj H
  go_enter Try.func88, Try.ntmps88
  go_wp2_with (first | ((with_reducible refine gate_dst (N := 1) rfl ?_); refine box_event ?hg (N := 1) ?hd (cs := #[.int .i64 a0_0, .int .i64 a0_1, .int .i64 a0_2]) (t := 63) ?hr ?_; (case hd => rfl); (case hg => rfl); (case hr => first | (go_simp; done) | (go_simp; rfl)); intro gb176 hg w11 hbox hb; have BK176 := Aside0.mk (hbox); have GW176 := xg HB hg; have GE176 := xg HB hg; replace HB := xp HB hb; clear hb hbox hg; have hcz12_0 : w11.cell? ⟨gb176, 0, none⟩ = some (.int .i64 a0_0) := (blk_cell BK176.out 0).trans rfl; have hcz12_1 : w11.cell? ⟨gb176, 1, none⟩ = some (.int .i64 a0_1) := (blk_cell BK176.out 1).trans rfl; have hcz12_2 : w11.cell? ⟨gb176, 2, none⟩ = some (.int .i64 a0_2) := (blk_cell BK176.out 2).trans rfl; have hfz12_0 := blk_frozen BK176.out 0; have hfz12_1 := blk_frozen BK176.out 1; have hfz12_2 := blk_frozen BK176.out 2) | ((with_reducible refine gate_callee (f := 85) rfl ?_); refine goesL_ (some 5) rfl rfl Try.func85 (by kernel_rfl) rfl #[.int .i64 a0_0, .int .i64 1, .int .i64 50] rfl (by (try simp only [List.map_toArray, List.map_cons, List.map_nil]); first | done | rfl | (simp only [List.length_drop, List.length_take]; rfl)) ?_; (with_reducible refine (impl_within.calls a0_0 1 50 false _ A2.out).mono ?_); rintro e w' ⟨rfl, ⟨nd, rfl⟩⟩; refine ⟨_, rfl, ?_⟩))
  go_ret
  exact ⟨by first | rfl | (simp [errW_none, errW_some] <;> rfl) | (simp [*, errW_none, errW_some] <;> rfl), by repeat (first | (with_reducible first | exact HB.out | apply below_alloc | apply pw_below_drewN | apply below_drew1 | refine below_set ?_ GE176.out) | exact HB.out)⟩

/-! ### impl_AreTanks: function 54 -/
theorem indexT63.calls (p : S63 → Bool) (g : Nat) (lb : Array Value) (eg : ∀ args w, (callFunc g args).run Try.prog w = .ok (.enter g args) w) (A0 : Option Addr) (c0 : Nat) (l0 : List S63) (w : World)
  (hp : 0 < l0.length → ∀ (W : World) (x : S63), Below w.heap.size w W → Calls Try.prog g (#[.agg #[.int .i64 x.f0, .int .i64 x.f1, .int .i64 x.f2]] ++ lb) W fun e w' => e = .returned (.bool (p x)) ∧ Below w.heap.size w w')
  (hr0 : Kd.C k63 w A0 l0.length l0) :
  Calls Try.prog 108 #[.slice A0 l0.length c0, .func (.func g) #[] lb] w fun e w' => ∃ r : Int, e = .returned (.int .i64 r) ∧ decide (r ≥ 0) = l0.any p ∧ Below w.heap.size w w' := by
 have hu63 := Try.underlying63
 have HR0 := Aside0.mk hr0
 clear hr0
 have HN := Aside0.mk (HR0.out.2.1)
 go_enter Try.func108, Try.ntmps108
 go_wp2
 go_loopg [5, 8] l0.length (fun gg _ s8 wr => ∃ x8 : Int, s8 = .int .i64 x8 ∧ Aside0 (0 ≤ x8 ∧ x8 ≤ l0.length) ∧ Aside0 (l0.length - x8.toNat ≤ gg) ∧ Aside0 (Below w.heap.size w wr) ∧ Aside0 (∀ j : Nat, j < x8.toNat → p (rd_T63 l0 j) = false))
 case atStart => exact ⟨0, rfl, ⟨by omega⟩, ⟨by simp⟩, ⟨Below.refl _ w⟩, ⟨fun j hj => absurd hj (by simp)⟩⟩
 case round =>
  obtain ⟨x8, rfl, HX, HG, HB, HA⟩ := hrel
  by_cases hlt : x8 < (l0.length : Int)
  ·have c1 : decide (x8 < (l0.length : Int)) = true := decide_eq_true hlt
   have c2 : decide (0 ≤ x8) = true := decide_eq_true HX.out.1
   obtain ⟨ad, e1, hx0, hx1, hx2⟩ := at_T63 (Kd.C_below HR0.out HB.out) x8 HX.out.1 hlt
   cases e1
   have q1 := eq_true HX.out.1
   have q2 := eq_true hlt
   have HL := Aside0.mk hlt
   clear hlt
   have hcall := Aside0.mk (hp (by have h1_ := HX.out.1; have h2_ := HL.out; omega) wr (rd_T63 l0 x8) HB.out)
   have HP := Aside0.mk hp
   clear hp
   cases hq : p (rd_T63 l0 x8) with
   | true =>
    have HQ := Aside0.mk hq
    clear hq
    go_wp2_with (go_at_fn g; refine hcall.out.mono ?_; rintro e w' ⟨rfl, hb'⟩; have HB' := Aside0.mk hb'; clear hb'; simp only [HQ.out])
    go_ret
    refine ⟨x8, rfl, ?_, HB'.out⟩
    rw [decide_eq_true HX.out.1]
    refine (List.any_eq_true.mpr ⟨rd_T63 l0 x8, ?_, HQ.out⟩).symm
    have hn : x8.toNat < l0.length := by have := HX.out.1; have := HL.out; omega
    unfold rd_T63
    rw [List.getD_eq_getElem?_getD, List.getElem?_eq_getElem hn]
    exact List.getElem_mem hn
   | false =>
    have HQ := Aside0.mk hq
    clear hq
    go_wp2_with (go_at_fn g; refine hcall.out.mono ?_; rintro e w' ⟨rfl, hb'⟩; have HB' := Aside0.mk hb'; clear hb'; simp only [HQ.out])
    go_roundg (l0.length - (x8.toNat + 1))
    case measure => have := HG.out; have := HX.out.1; have := HL.out; omega
    case rel =>
     have hw : wrap64 (x8 + 1) = x8 + 1 := by have := HX.out.1; have := HL.out; have := HN.out; unfold wrap64; omega
     refine ⟨x8 + 1, by rw [hw], ⟨by have := HX.out.1; have := HL.out; omega⟩, ⟨by have := HX.out.1; omega⟩, ⟨HB'.out⟩, ⟨fun j hj => ?_⟩⟩
     by_cases e : j < x8.toNat
     ·exact HA.out j e
     ·have : (j : Int) = x8 := by have := HX.out.1; omega
      rw [this]
      exact HQ.out
  ·have c1 : decide (x8 < (l0.length : Int)) = false := decide_eq_false hlt
   have HL := Aside0.mk hlt
   clear hlt
   go_wp2
   go_ret
   refine ⟨-1, rfl, ?_, HB.out⟩
   rw [decide_eq_false (by decide)]
   refine (List.any_eq_false.mpr fun x hx => ?_).symm
   obtain ⟨j, hj, rfl⟩ := List.mem_iff_getElem.1 hx
   have := HA.out j (by have := HX.out; have := HL.out; omega)
   unfold rd_T63 at this
   rw [List.getD_eq_getElem?_getD, Int.toNat_natCast, List.getElem?_eq_getElem hj] at this
   simpa using this
theorem containsT63.calls (p : S63 → Bool) (g : Nat) (lb : Array Value) (eg : ∀ args w, (callFunc g args).run Try.prog w = .ok (.enter g args) w) (A0 : Option Addr) (c0 : Nat) (l0 : List S63) (w : World)
  (hp : 0 < l0.length → ∀ (W : World) (x : S63), Below w.heap.size w W → Calls Try.prog g (#[.agg #[.int .i64 x.f0, .int .i64 x.f1, .int .i64 x.f2]] ++ lb) W fun e w' => e = .returned (.bool (p x)) ∧ Below w.heap.size w w')
  (hr0 : Kd.C k63 w A0 l0.length l0) :
  Calls Try.prog 86 #[.slice A0 l0.length c0, .func (.func g) #[] lb] w fun e w' => e = .returned (.bool (l0.any p)) ∧ Below w.heap.size w w' := by
 have hc := Aside0.mk (indexT63.calls p g lb eg A0 c0 l0 w hp hr0)
 clear hp hr0
 go_enter Try.func86, Try.ntmps86
 go_wp2_with (go_at_call 108; refine hc.out.mono ?_; rintro e w' ⟨r, rfl, hr, hb⟩; have HB := Aside0.mk hb; have HR := Aside0.mk hr; clear hb hr)
 go_ret
 refine ⟨?_, HB.out⟩
 rw [← HR.out]
 first | rfl | simp
/-- a tank -/
def tankOk (x : S63) : Bool := decide (1 ≤ x.f0 ∧ x.f0 ≤ 50) && (decide (0 ≤ x.f1 ∧ x.f1 ≤ 100) && decide (0 ≤ x.f2 ∧ x.f2 ≤ 10000))
theorem isTank_val (a b c : Int) : impl_IsTank.f a b c = some (tankOk ⟨a, b, c⟩) := by
 unfold impl_IsTank.f impl_within.f tankOk
 by_cases h1 : 1 ≤ a <;> by_cases h2 : a ≤ 50 <;> by_cases h3 : 0 ≤ b <;> by_cases h4 : b ≤ 100 <;> by_cases h5 : 0 ≤ c <;> by_cases h6 : c ≤ 10000 <;> simp [h1, h2, h3, h4, h5, h6]
def impl_AreTanks.f (l0 : List S63) : Option (Bool) := some (decide (1 ≤ (l0.length : Int) ∧ (l0.length : Int) ≤ 6) && !(l0.any fun x => !tankOk x))
theorem impl_AreTanks.closure (w W : World) (x : S63) (hb : Below w.heap.size w W) :
  Calls Try.prog 87 (#[.agg #[.int .i64 x.f0, .int .i64 x.f1, .int .i64 x.f2]] ++ #[]) W fun e w' => e = .returned (.bool (!tankOk x)) ∧ Below w.heap.size w w' := by
 have hu63 := Try.underlying63
 have HB := Aside0.mk hb
 clear hb
 have hw := Aside0.mk (fun W' => impl_IsTank.calls x.f0 x.f1 x.f2 (tankOk x) W' (isTank_val _ _ _))
 show Calls Try.prog 87 #[.agg #[.int .i64 x.f0, .int .i64 x.f1, .int .i64 x.f2]] W _
 go_enter Try.func87, Try.ntmps87
 go_wp2_with (go_at_call 88; refine (hw.out _).mono ?_; rintro e w' ⟨rfl, hd⟩; have HD := Aside0.mk hd; clear hd)
 go_ret
 refine ⟨by first | rfl | simp, ?_⟩
 exact below_then (HB.out.alloc HB.out.size _) (Nat.le_trans HB.out.size (by simp)) HD.out
set_option maxHeartbeats 2000000 in
theorem impl_AreTanks.calls (A0 : Option Addr) (c0 : Nat) (l0 : List S63) (r : Bool) (w : World) (hr0 : Kd.C k63 w A0 l0.length l0) (hc0 : l0.length ≤ c0) (h : impl_AreTanks.f l0 = some r) :
  Calls Try.prog 54 #[.slice A0 l0.length c0] w fun e w' => e = .returned (.bool r) ∧ Below w.heap.size w w' := by
 obtain rfl := Option.some.inj h
 clear h
 have HW := Aside0.mk (Below.refl w.heap.size w)
 have hC := Aside0.mk (fun (W : World) (hb : Below w.heap.size w W) => containsT63.calls (fun x => !tankOk x) 87 #[] (enters_of Try.func87 (by kernel_rfl) rfl) A0 c0 l0 W (fun _ W' x hb' => impl_AreTanks.closure W W' x hb') (Kd.C_below hr0 hb))
 clear hr0
 by_cases c1 : 1 ≤ (l0.length : Int) ∧ (l0.length : Int) ≤ 6
 ·have hI := Aside0.mk (fun W' => impl_within.calls (l0.length : Int) 1 6 true W' (by unfold impl_within.f; rw [if_pos c1.1, decide_eq_true c1.2]))
  rw [decide_eq_true c1]
  clear c1
  go_enter Try.func54, Try.ntmps54
  go_wp2_with (first | (go_at_call 85; refine (hI.out _).mono ?_; rintro e w' ⟨rfl, hd⟩; obtain ⟨q, rfl⟩ := hd.out) | (go_at_call 86; refine (hC.out _ (by first | exact HW.out | exact pw_below_drewN HW.out _)).mono ?_; rintro e w' ⟨rfl, hb⟩; have HB := Aside0.mk hb; clear hb))
  go_ret
  refine ⟨by first | rfl | simp, ?_⟩
  first | exact HB.out | exact below_then (pw_below_drewN HW.out _) (by simp) HB.out
 ·have hI := Aside0.mk (fun W' => impl_within.calls (l0.length : Int) 1 6 false W' (by
   unfold impl_within.f
   by_cases h1 : 1 ≤ (l0.length : Int)
   ·rw [if_pos h1, decide_eq_false (fun h2 => c1 ⟨h1, h2⟩)]
   ·rw [if_neg h1]))
  rw [decide_eq_false c1]
  clear c1
  go_enter Try.func54, Try.ntmps54
  go_wp2_with (first | (go_at_call 85; refine (hI.out _).mono ?_; rintro e w' ⟨rfl, hd⟩; obtain ⟨q, rfl⟩ := hd.out))
  go_ret
  exact ⟨by first | rfl | simp, by first | exact HW.out | exact pw_below_drewN HW.out _⟩

-- NOT PRINTED: function 79 (slices_SortStableFunc_int_int)

/-! ### cmp_isNaN_int: function 107 -/
def cmp_isNaN_int.f (a0 : Int) : Option (Bool) := some (a0 != a0)
set_option maxHeartbeats 8000000 in
set_option maxRecDepth 100000 in
theorem cmp_isNaN_int.calls (a0 : Int) (r : Bool) (w : World) (h : cmp_isNaN_int.f a0 = some r) :
  Calls Try.prog 107 #[.int .i64 a0] w fun e w' => e = .returned (.bool r) ∧ Drawn0 w w' := by
 have H : (some (a0 != a0)) = some r := h
 clear h
 obtain rfl := Option.some.inj H
 go_enter Try.func107, Try.ntmps107
 go_wp2
 go_ret
 exact ⟨by first | rfl | (simp; done) | (simp [*]; done), by repeat (first | exact Drawn0.refl _ | apply Drawn0.step)⟩

end Go.Proofs.Ytedkbaadbnpkoaa.PFnExactFloodOrder

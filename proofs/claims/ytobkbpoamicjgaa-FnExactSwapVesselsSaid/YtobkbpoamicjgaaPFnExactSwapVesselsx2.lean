/- Lean functions of the Go functions that the law FnExactSwapVessels reaches, and the proofs that the calls come to what they say (made by program). -/
import Derived.Test.YtobkbpoamicjgaaAb
import Derived.Test.YtobkbpoamicjgaaPFnExactSwapVesselsx0
import Derived.Test.YtobkbpoamicjgaaPFnExactSwapVesselsx1
namespace Go.Proofs.Ytobkbpoamicjgaa.PFnExactSwapVessels
open Go.RowKit Go.Proofs.YtobkbpoamicjgaaW.PrintWords Go.Proofs.YtobkbpoamicjgaaW.PrintLast Go.Proofs.YtobkbpoamicjgaaW.PrintMore Go.Proofs.Ytobkbpoamicjgaa.Ab
attribute [local go_sem] max2_int min2_int max_two min_two max_three min_three max_four min_four   -- for this text's walks alone
set_option linter.unusedVariables false
set_option linter.unusedSimpArgs false

/-! ### spec_SwapVessels: function 16 -/
def spec_SwapVessels.j0 : Nat → Int → Int → Bool → List Int → List Int → Option (List Int × List Int × Bool)
  | 0, _, _, _, _, _ => none
  | k + 1, x1, x2, x18, x122000, x122001 => if x18 = true then (some (([] : List Int), ([] : List Int), false)) else ((spec_l1Own.f x122000).bind fun t125 => ((spec_l1Own.f x122001).bind fun t128 => (if 0 ≤ x2 then (if x2 < (x122000.length : Int) then (if 0 ≤ x1 then (if x1 < (t125.length : Int) then (if x1 < (x122000.length : Int) then (if x2 < (t125.length : Int) then (if x2 < (x122001.length : Int) then (if x1 < (t128.length : Int) then (if x1 < (x122001.length : Int) then (if x2 < (t128.length : Int) then (some (((t125.set (x1 : Int).toNat (rd x122000 x2)).set (x2 : Int).toNat (rd x122000 x1)), ((t128.set (x1 : Int).toNat (rd x122001 x2)).set (x2 : Int).toNat (rd x122001 x1)), true)) else (none)) else (none)) else (none)) else (none)) else (none)) else (none)) else (none)) else (none)) else (none)) else (none))))
def spec_SwapVessels.f (k : Nat) (l0_0 : List Int) (l0_1 : List Int) (a1 : Int) (a2 : Int) : Option (List Int × List Int × Bool) := (spec_veOne.f k l0_0 l0_1 a1).bind fun t123 => (if t123 = true then ((spec_veOne.f k l0_0 l0_1 a2).bind fun t124 => (spec_SwapVessels.j0 k a1 a2 (!t124) l0_0 l0_1)) else (spec_SwapVessels.j0 k a1 a2 true l0_0 l0_1))
theorem spec_SwapVessels.mono_l : ∀ k, (∀ y0 y1 y2 y3 y4, LeO (spec_SwapVessels.j0 k y0 y1 y2 y3 y4) (spec_SwapVessels.j0 (k + 1) y0 y1 y2 y3 y4))
  | 0 => fun _ _ _ _ _ r h => by simp [spec_SwapVessels.j0] at h
  | k + 1 => by
    have ih0 := spec_SwapVessels.mono_l k
    · intro y0 y1 y2 y3 y4
      unfold spec_SwapVessels.j0
      repeat' first
      | (with_reducible exact ih0 _ _ _ _ _)
      | (with_reducible exact spec_veOne.mono _ _ _ _)
      | (with_reducible exact LeO.refl _)
      | (with_reducible exact LeO.none _)
      | (with_reducible refine LeO.ite ?_ ?_)
      | (with_reducible refine LeO.bind ?_ (fun _ => ?_))
      | exact ih0 _ _ _ _ _
      | exact spec_veOne.mono _ _ _ _
      | exact LeO.none _
      | refine LeO.ite ?_ ?_
      | refine LeO.bind ?_ (fun _ => ?_)
theorem spec_SwapVessels.mono : ∀ a0 a1 a2 a3 k, LeO (spec_SwapVessels.f k a0 a1 a2 a3) (spec_SwapVessels.f (k + 1) a0 a1 a2 a3) := by
  intro a0 a1 a2 a3 k
  have ih0 := spec_SwapVessels.mono_l k
  unfold spec_SwapVessels.f
  repeat' first
      | (with_reducible exact ih0 _ _ _ _ _)
      | (with_reducible exact spec_veOne.mono _ _ _ _)
      | (with_reducible exact LeO.refl _)
      | (with_reducible exact LeO.none _)
      | (with_reducible refine LeO.ite ?_ ?_)
      | (with_reducible refine LeO.bind ?_ (fun _ => ?_))
      | exact ih0 _ _ _ _ _
      | exact spec_veOne.mono _ _ _ _
      | exact LeO.none _
      | refine LeO.ite ?_ ?_
      | refine LeO.bind ?_ (fun _ => ?_)
def spec_SwapVessels.T3 : Bool × List (List Nat × List Nat) := (true, [([], []), ([0], [0]), ([1], [1]), ([], []), ([3], [3]), ([4, 2], [4]), ([2, 5], [2, 5]), ([], []), ([7, 6, 5, 0, 1, 2, 3, 4, 5, 6, 7], [6, 7])])
def spec_SwapVessels.B3 : List Nat := [0, 1, 3, 0, 8, 31, 63, 0, 255]
theorem spec_SwapVessels.tab3 : rtab .any (opsOf Try.f16 3) = spec_SwapVessels.T3 := by kernel_rfl
theorem spec_SwapVessels.bits3 : waitsOk spec_SwapVessels.T3.2 spec_SwapVessels.B3 = true := by kernel_rfl
def spec_SwapVessels.T4 : Bool × List (List Nat × List Nat) := (true, [([], []), ([0], [0]), ([], []), ([], []), ([3], [3]), ([], []), ([4, 5], [4, 5]), ([6], [6]), ([1, 2, 0, 1, 2, 3, 4, 5, 6, 7], [1, 2]), ([8, 7, 0, 1, 2, 3, 4, 5, 6, 7], [7, 8])])
def spec_SwapVessels.B4 : List Nat := [0, 1, 0, 0, 8, 0, 56, 120, 255, 511]
theorem spec_SwapVessels.tab4 : rtab .any (opsOf Try.f16 4) = spec_SwapVessels.T4 := by kernel_rfl
theorem spec_SwapVessels.bits4 : waitsOk spec_SwapVessels.T4.2 spec_SwapVessels.B4 = true := by kernel_rfl
def spec_SwapVessels.T5 : Bool × List (List Nat × List Nat) := (true, [([], []), ([0], [0]), ([], []), ([], []), ([3], [3]), ([], []), ([4, 5], [4, 5]), ([6], [6]), ([1, 2, 0, 1, 2, 3, 4, 5, 6, 7], [1, 2]), ([8, 7, 0, 1, 2, 3, 4, 5, 6, 7], [7, 8])])
def spec_SwapVessels.B5 : List Nat := [0, 1, 0, 0, 8, 0, 56, 120, 255, 511]
theorem spec_SwapVessels.tab5 : rtab .any (opsOf Try.f16 5) = spec_SwapVessels.T5 := by kernel_rfl
theorem spec_SwapVessels.bits5 : waitsOk spec_SwapVessels.T5.2 spec_SwapVessels.B5 = true := by kernel_rfl
def spec_SwapVessels.T6 : Bool × List (List Nat × List Nat) := (true, [([], []), ([0], [0]), ([], []), ([], []), ([3], [3]), ([], []), ([4, 5], [4, 5]), ([6], [6]), ([1, 2, 0, 1, 2, 3, 4, 5, 6, 7], [1, 2]), ([8, 7, 0, 1, 2, 3, 4, 5, 6, 7], [7, 8])])
def spec_SwapVessels.B6 : List Nat := [0, 1, 0, 0, 8, 0, 56, 120, 255, 511]
theorem spec_SwapVessels.tab6 : rtab .any (opsOf Try.f16 6) = spec_SwapVessels.T6 := by kernel_rfl
theorem spec_SwapVessels.bits6 : waitsOk spec_SwapVessels.T6.2 spec_SwapVessels.B6 = true := by kernel_rfl
def spec_SwapVessels.T7 : Bool × List (List Nat × List Nat) := (true, [([], []), ([0], [0]), ([], []), ([], []), ([3], [3]), ([], []), ([4, 5], [4, 5]), ([6], [6]), ([1, 2, 0, 1, 2, 3, 4, 5, 6, 7], [1, 2]), ([8, 7, 0, 1, 2, 3, 4, 5, 6, 7], [7, 8])])
def spec_SwapVessels.B7 : List Nat := [0, 1, 0, 0, 8, 0, 56, 120, 255, 511]
theorem spec_SwapVessels.tab7 : rtab .any (opsOf Try.f16 7) = spec_SwapVessels.T7 := by kernel_rfl
theorem spec_SwapVessels.bits7 : waitsOk spec_SwapVessels.T7.2 spec_SwapVessels.B7 = true := by kernel_rfl
set_option maxHeartbeats 8000000 in
set_option maxRecDepth 100000 in
theorem spec_SwapVessels.calls (k : Nat) (A0_0 : Option Addr) (c0_0 : Nat) (l0_0 : List Int) (A0_1 : Option Addr) (c0_1 : Nat) (l0_1 : List Int) (a1 : Int) (a2 : Int) (r1 : List Int) (r2 : List Int) (r3 : Bool) (w : World) (hr0_0 : Kd.C (Kd.int .i64) w A0_0 l0_0.length l0_0) (hc0_0 : l0_0.length ≤ c0_0) (hr0_1 : Kd.C (Kd.int .i64) w A0_1 l0_1.length l0_1) (hc0_1 : l0_1.length ≤ c0_1) (h : spec_SwapVessels.f k l0_0 l0_1 a1 a2 = some (r1, r2, r3)) :
    Calls Try.prog 16 #[.agg #[.slice A0_0 l0_0.length c0_0, .slice A0_1 l0_1.length c0_1], .int .i64 a1, .int .i64 a2] w fun e w' => ∃ v0_ v1_ : Value, e = .returned (.tuple #[.agg #[v0_, v1_], .bool r3]) ∧ Kd.R (Kd.int .i64) 3 w' w.heap.size (fun k_ => some k_ ≠ (v1_ : Value).ownBlock) v0_ r1 ∧ Kd.R (Kd.int .i64) 3 w' w.heap.size (fun k_ => some k_ ≠ (v0_ : Value).ownBlock) v1_ r2 ∧ Below w.heap.size w w' := by
  have hu26 := Try.underlying26
  have HR0_0 := Aside0.mk hr0_0
  have HC0_0 := Aside0.mk hc0_0
  clear hr0_0 hc0_0
  have HR0_1 := Aside0.mk hr0_1
  have HC0_1 := Aside0.mk hc0_1
  clear hr0_1 hc0_1
  have HB := Aside0.mk (Below.refl w.heap.size w)
  have H : ((spec_veOne.f k l0_0 l0_1 a1).bind fun t123 => (if t123 = true then ((spec_veOne.f k l0_0 l0_1 a2).bind fun t124 => (spec_SwapVessels.j0 k a1 a2 (!t124) l0_0 l0_1)) else (spec_SwapVessels.j0 k a1 a2 true l0_0 l0_1))) = some (r1, r2, r3) := h
  clear h
  have HC4 := Aside0.mk H
  clear H
  go_enter Try.func16, Try.ntmps16
  go_upto_region 1 with (first | ((with_reducible refine gate_dst (N := 3) rfl ?_); refine box_event ?hg (N := 3) ?hd (cs := #[.slice A0_0 l0_0.length c0_0, .slice A0_1 l0_1.length c0_1]) (t := 26) ?hr ?_; (case hd => rfl); (case hg => rfl); (case hr => first | (go_simp; done) | (go_simp; rfl)); intro gb121 hg w5 hbox hb; have n0_ := Aside0.mk (below_step (xs HB.out) hb); have n1_ := Aside0.mk (hbox); have n2_ := Aside0.mk ((by rw [hg]; exact (below_size (xs HB.out)) : w.heap.size ≤ gb121)); have n3_ := Aside0.mk ((by rw [hg]; exact (below_size (xs HB.out)) : w.heap.size ≤ gb121)); clear HB; have HB := n0_; have BK121 := n1_; have GW121 := n2_; have GE121 := n3_; clear n0_ n1_ n2_ n3_; clear hb hbox hg) | ((with_reducible refine gate_dst (N := 6) rfl ?_); refine box_event ?hg (N := 6) ?hd (cs := #[.slice none 0 0, .slice none 0 0]) (t := 26) ?hr ?_; (case hd => rfl); (case hg => rfl); (case hr => first | (go_simp; done) | (go_simp; rfl)); intro gb122 hg w6 hbox hb; have n0_ := Aside0.mk (blk_below (g := gb121) (o := .cells #[.slice A0_0 l0_0.length c0_0, .slice A0_1 l0_1.length c0_1] 26 (0, 0)) (xb BK121.out) hb); have n1_ := Aside0.mk (below_step (xs HB.out) hb); have n2_ := Aside0.mk (hbox); have n3_ := Aside0.mk ((by rw [hg]; exact (below_size (xs HB.out)) : w.heap.size ≤ gb122)); have n4_ := Aside0.mk ((by rw [hg]; exact (below_size (xs HB.out)) : w.heap.size ≤ gb122)); have n5_ := Aside0.mk ((by rw [hg]; exact Nat.ne_of_lt (blk_lt (g := gb121) (o := .cells #[.slice A0_0 l0_0.length c0_0, .slice A0_1 l0_1.length c0_1] 26 (0, 0)) (xb BK121.out)) : gb121 ≠ gb122)); have n6_ := Aside0.mk ((by rw [hg]; exact Nat.ne_of_gt (blk_lt (g := gb121) (o := .cells #[.slice A0_0 l0_0.length c0_0, .slice A0_1 l0_1.length c0_1] 26 (0, 0)) (xb BK121.out)) : gb122 ≠ gb121)); clear BK121; clear HB; have BK121 := n0_; have HB := n1_; have BK122 := n2_; have GW122 := n3_; have GE122 := n4_; have NB121_122 := n5_; have NB122_121 := n6_; clear n0_ n1_ n2_ n3_ n4_ n5_ n6_; clear hb hbox hg))
  (try simp only [Act.put, List.setIfInBounds_toArray, List.set_cons_zero, List.set_cons_succ])
  go_cut [18] (fun v18 wc => ∃ (kq : Nat) (x18_3 : Bool), v18 = .bool x18_3 ∧ Aside0 (spec_SwapVessels.j0 kq a1 a2 x18_3 l0_0 l0_1 = some (r1, r2, r3)) ∧ Aside0 (kq ≤ k) ∧ Aside0 (wc.heap[gb121]? = some (.cells #[(.slice A0_0 l0_0.length c0_0), (.slice A0_1 l0_1.length c0_1)] 26 (0, 0))) ∧ Aside0 (wc.heap[gb122]? = some (.cells #[(.slice none 0 0), (.slice none 0 0)] 26 (0, 0))) ∧ Aside0 (Below w.heap.size w wc))
  case first =>
    have H := HC4.out
    clear HC4
    replace H := Option.bind_eq_some_iff.mp H
    obtain ⟨t123, A70, H⟩ := H
    replace H : (if t123 = true then ((spec_veOne.f k l0_0 l0_1 a2).bind fun t124 => (spec_SwapVessels.j0 k a1 a2 (!t124) l0_0 l0_1)) else (spec_SwapVessels.j0 k a1 a2 true l0_0 l0_1)) = some (r1, r2, r3) := H
    have A7 := Aside0.mk A70
    clear A70
    by_cases c8 : t123 = true
    · subst c8
      have H1 : ((spec_veOne.f k l0_0 l0_1 a2).bind fun t124 => (spec_SwapVessels.j0 k a1 a2 (!t124) l0_0 l0_1)) = some (r1, r2, r3) := by rw [if_pos rfl] at H; exact H
      clear H
      have H := H1
      clear H1
      replace H := Option.bind_eq_some_iff.mp H
      obtain ⟨t124, A90, H⟩ := H
      replace H : (spec_SwapVessels.j0 k a1 a2 (!t124) l0_0 l0_1) = some (r1, r2, r3) := H
      have A9 := Aside0.mk A90
      clear A90
      have H' := Aside0.mk H
      clear H
      have hnb10 := NB121_122.out
      have hnc10 := NB122_121.out
      have hcz11_0 : w6.cell? ⟨gb121, 0, none⟩ = some (.slice A0_0 l0_0.length c0_0) := (blk_cell BK121.out 0).trans rfl
      have hcz11_1 : w6.cell? ⟨gb121, 1, none⟩ = some (.slice A0_1 l0_1.length c0_1) := (blk_cell BK121.out 1).trans rfl
      have hfz11_0 := blk_frozen BK121.out 0
      have hfz11_1 := blk_frozen BK121.out 1
      go_wp2_with (first | ((with_reducible refine gate_callee (f := 61) rfl ?_); refine goesL_ (some 11) rfl rfl Try.func61 (by kernel_rfl) rfl #[.agg #[.slice A0_0 l0_0.length c0_0, .slice A0_1 l0_1.length c0_1], .int .i64 a1] rfl (by (try simp only [List.map_toArray, List.map_cons, List.map_nil]); first | done | rfl | (simp only [List.length_drop, List.length_take]; rfl)) ?_; (with_reducible refine (spec_veOne.calls k _ _ l0_0 _ _ l0_1 a1 true _ ?side1 ?side2 ?side3 ?side4 A7.out).mono ?_); (case side1 => repeat (first | exact (Kd.C_below HR0_0.out HB.out) | (with_reducible refine Kd.C_alloc ?_ _) | (with_reducible refine Kd.C_drewN ?_ _) | (with_reducible refine Kd.C_drew ?_))); (case side2 => exact HC0_0.out); (case side3 => repeat (first | exact (Kd.C_below HR0_1.out HB.out) | (with_reducible refine Kd.C_alloc ?_ _) | (with_reducible refine Kd.C_drewN ?_ _) | (with_reducible refine Kd.C_drew ?_))); (case side4 => exact HC0_1.out); rintro e w12 ⟨rfl, hb⟩; refine ⟨_, rfl, ?_⟩; have n0_ := Aside0.mk (blk_below (g := gb121) (o := .cells #[.slice A0_0 l0_0.length c0_0, .slice A0_1 l0_1.length c0_1] 26 (0, 0)) (xb BK121.out) hb); have n1_ := Aside0.mk (blk_below (g := gb122) (o := .cells #[.slice none 0 0, .slice none 0 0] 26 (0, 0)) (xb BK122.out) hb); have n2_ := Aside0.mk (below_step (xs HB.out) hb); clear BK121; clear BK122; clear HB; have BK121 := n0_; have BK122 := n1_; have HB := n2_; clear n0_ n1_ n2_; (try clear hb); (try clear hb2); (try clear hk); (try clear hi); have hcz13_0 : w12.cell? ⟨gb121, 0, none⟩ = some (.slice A0_0 l0_0.length c0_0) := (blk_cell BK121.out 0).trans rfl; have hcz13_1 : w12.cell? ⟨gb121, 1, none⟩ = some (.slice A0_1 l0_1.length c0_1) := (blk_cell BK121.out 1).trans rfl; have hfz13_0 := blk_frozen BK121.out 0; have hfz13_1 := blk_frozen BK121.out 1) | (go_at_call 61; (with_reducible refine (spec_veOne.calls k _ _ l0_0 _ _ l0_1 a2 t124 _ ?side1 ?side2 ?side3 ?side4 A9.out).mono ?_); (case side1 => repeat (first | exact (Kd.C_below HR0_0.out HB.out) | (with_reducible refine Kd.C_alloc ?_ _) | (with_reducible refine Kd.C_drewN ?_ _) | (with_reducible refine Kd.C_drew ?_))); (case side2 => exact HC0_0.out); (case side3 => repeat (first | exact (Kd.C_below HR0_1.out HB.out) | (with_reducible refine Kd.C_alloc ?_ _) | (with_reducible refine Kd.C_drewN ?_ _) | (with_reducible refine Kd.C_drew ?_))); (case side4 => exact HC0_1.out); rintro e w14 ⟨rfl, hb⟩; have n0_ := Aside0.mk (blk_below (g := gb121) (o := .cells #[.slice A0_0 l0_0.length c0_0, .slice A0_1 l0_1.length c0_1] 26 (0, 0)) (xb BK121.out) hb); have n1_ := Aside0.mk (blk_below (g := gb122) (o := .cells #[.slice none 0 0, .slice none 0 0] 26 (0, 0)) (xb BK122.out) hb); have n2_ := Aside0.mk (below_step (xs HB.out) hb); clear BK121; clear BK122; clear HB; have BK121 := n0_; have BK122 := n1_; have HB := n2_; clear n0_ n1_ n2_; (try clear hb); (try clear hb2); (try clear hk); (try clear hi)))
      go_meet
      case rel => exact ⟨_, (!t124), (by first | rfl | (simp; done) | (simp [*]; done)), H', ⟨by first | omega | exact Nat.le_refl _⟩, ⟨xb BK121.out⟩, ⟨xb BK122.out⟩, ⟨xs HB.out⟩⟩
    · replace c8 := Bool.eq_false_iff.mpr c8
      subst c8
      have H1 : (spec_SwapVessels.j0 k a1 a2 true l0_0 l0_1) = some (r1, r2, r3) := by rw [if_neg (show ¬ (false = true) by decide)] at H; exact H
      clear H
      have H := H1
      clear H1
      have H' := Aside0.mk H
      clear H
      have hnb15 := NB121_122.out
      have hnc15 := NB122_121.out
      have hcz16_0 : w6.cell? ⟨gb121, 0, none⟩ = some (.slice A0_0 l0_0.length c0_0) := (blk_cell BK121.out 0).trans rfl
      have hcz16_1 : w6.cell? ⟨gb121, 1, none⟩ = some (.slice A0_1 l0_1.length c0_1) := (blk_cell BK121.out 1).trans rfl
      have hfz16_0 := blk_frozen BK121.out 0
      have hfz16_1 := blk_frozen BK121.out 1
      go_wp2_with (first | ((with_reducible refine gate_callee (f := 61) rfl ?_); refine goesL_ (some 11) rfl rfl Try.func61 (by kernel_rfl) rfl #[.agg #[.slice A0_0 l0_0.length c0_0, .slice A0_1 l0_1.length c0_1], .int .i64 a1] rfl (by (try simp only [List.map_toArray, List.map_cons, List.map_nil]); first | done | rfl | (simp only [List.length_drop, List.length_take]; rfl)) ?_; (with_reducible refine (spec_veOne.calls k _ _ l0_0 _ _ l0_1 a1 false _ ?side1 ?side2 ?side3 ?side4 A7.out).mono ?_); (case side1 => repeat (first | exact (Kd.C_below HR0_0.out HB.out) | (with_reducible refine Kd.C_alloc ?_ _) | (with_reducible refine Kd.C_drewN ?_ _) | (with_reducible refine Kd.C_drew ?_))); (case side2 => exact HC0_0.out); (case side3 => repeat (first | exact (Kd.C_below HR0_1.out HB.out) | (with_reducible refine Kd.C_alloc ?_ _) | (with_reducible refine Kd.C_drewN ?_ _) | (with_reducible refine Kd.C_drew ?_))); (case side4 => exact HC0_1.out); rintro e w17 ⟨rfl, hb⟩; refine ⟨_, rfl, ?_⟩; have n0_ := Aside0.mk (blk_below (g := gb121) (o := .cells #[.slice A0_0 l0_0.length c0_0, .slice A0_1 l0_1.length c0_1] 26 (0, 0)) (xb BK121.out) hb); have n1_ := Aside0.mk (blk_below (g := gb122) (o := .cells #[.slice none 0 0, .slice none 0 0] 26 (0, 0)) (xb BK122.out) hb); have n2_ := Aside0.mk (below_step (xs HB.out) hb); clear BK121; clear BK122; clear HB; have BK121 := n0_; have BK122 := n1_; have HB := n2_; clear n0_ n1_ n2_; (try clear hb); (try clear hb2); (try clear hk); (try clear hi)))
      go_meet
      case rel => exact ⟨_, (true), (by first | rfl | (simp; done) | (simp [*]; done)), H', ⟨by first | omega | exact Nat.le_refl _⟩, ⟨xb BK121.out⟩, ⟨xb BK122.out⟩, ⟨xs HB.out⟩⟩
  case rest =>
    clear HC4
    try clear c1
    try clear p2
    try clear c6
    try clear c8
    try clear c10
    try clear c15
    try clear c16
    try clear hcz11_0
    try clear hcz11_1
    try clear hcz13_0
    try clear hcz13_1
    try clear hcz16_0
    try clear hcz16_1
    try clear hfz11_0
    try clear hfz11_1
    try clear hfz13_0
    try clear hfz13_1
    try clear hfz16_0
    try clear hfz16_1
    obtain ⟨kq, x18_3, rfl, HA, HJ3, BK121, BK122, HB⟩ := hcut
    cases kq with
    | zero => exact absurd HA.out (by simp [spec_SwapVessels.j0])
    | succ kj3 =>
      have H := HA.out
      clear HA
      simp only [spec_SwapVessels.j0] at H
      by_cases c18 : x18_3 = true
      · subst c18
        have H1 : (some (([] : List Int), ([] : List Int), false)) = some (r1, r2, r3) := by rw [if_pos rfl] at H; exact H
        clear H
        have H := H1
        clear H1
        simp only [Option.some.injEq, Prod.mk.injEq] at H
        obtain ⟨rfl, rfl, rfl⟩ := H
        have hnb19 := NB122_121.out
        have hnc19 := NB121_122.out
        have hcz20_0 : wc.cell? ⟨gb122, 0, none⟩ = some (.slice none 0 0) := (blk_cell BK122.out 0).trans rfl
        have hcz20_1 : wc.cell? ⟨gb122, 1, none⟩ = some (.slice none 0 0) := (blk_cell BK122.out 1).trans rfl
        have hfz20_0 := blk_frozen BK122.out 0
        have hfz20_1 := blk_frozen BK122.out 1
        go_wp2
        refine bodyPost_ret (results_ct rfl _ _ gb122 26 #[.slice none 0 0, .slice none 0 0] (0, 0) _ rfl (by (with_reducible repeat (first | refine blk_drewN ?_ _ | refine blk_drew ?_ | refine blk_alloc ?_ _)); refine blk_put (cs := #[.slice none 0 0, .slice none 0 0]) ?_ 1 _ rfl; (with_reducible repeat (first | refine blk_drewN ?_ _ | refine blk_drew ?_ | refine blk_alloc ?_ _)); refine blk_put (cs := #[.slice none 0 0, .slice none 0 0]) ?_ 0 _ rfl; (with_reducible repeat (first | refine blk_drewN ?_ _ | refine blk_drew ?_ | refine blk_alloc ?_ _)); exact BK122.out) Try.underlying26 rfl (by kernel_rfl)) rfl ?_
        exact ⟨_, _, by first | rfl | (simp [errW_none, errW_some] <;> rfl) | (simp [*, errW_none, errW_some] <;> rfl), by first | exact Kd.R_nil _ _ _ _ _ | exact Kd.N_nil _ _ _ _ _ | exact Kd.V_nil _ _ _ _ _ | exact Kd.Q_nil _ _ _ _ _ | exact Kd.S_nil _ _ _ _ _, by first | exact Kd.R_nil _ _ _ _ _ | exact Kd.N_nil _ _ _ _ _ | exact Kd.V_nil _ _ _ _ _ | exact Kd.Q_nil _ _ _ _ _ | exact Kd.S_nil _ _ _ _ _, by repeat (first | (with_reducible first | exact HB.out | apply below_alloc | apply pw_below_drewN | apply below_drew1 | refine below_set ?_ GE121.out | refine below_set ?_ GE122.out) | exact HB.out)⟩
      · replace c18 := Bool.eq_false_iff.mpr c18
        subst c18
        have H1 : ((spec_l1Own.f l0_0).bind fun t125 => ((spec_l1Own.f l0_1).bind fun t128 => (if 0 ≤ a2 then (if a2 < (l0_0.length : Int) then (if 0 ≤ a1 then (if a1 < (t125.length : Int) then (if a1 < (l0_0.length : Int) then (if a2 < (t125.length : Int) then (if a2 < (l0_1.length : Int) then (if a1 < (t128.length : Int) then (if a1 < (l0_1.length : Int) then (if a2 < (t128.length : Int) then (some (((t125.set (a1 : Int).toNat (rd l0_0 a2)).set (a2 : Int).toNat (rd l0_0 a1)), ((t128.set (a1 : Int).toNat (rd l0_1 a2)).set (a2 : Int).toNat (rd l0_1 a1)), true)) else (none)) else (none)) else (none)) else (none)) else (none)) else (none)) else (none)) else (none)) else (none)) else (none)))) = some (r1, r2, r3) := by rw [if_neg (show ¬ (false = true) by decide)] at H; exact H
        clear H
        have H := H1
        clear H1
        replace H := Option.bind_eq_some_iff.mp H
        obtain ⟨t125, A210, H⟩ := H
        replace H : ((spec_l1Own.f l0_1).bind fun t128 => (if 0 ≤ a2 then (if a2 < (l0_0.length : Int) then (if 0 ≤ a1 then (if a1 < (t125.length : Int) then (if a1 < (l0_0.length : Int) then (if a2 < (t125.length : Int) then (if a2 < (l0_1.length : Int) then (if a1 < (t128.length : Int) then (if a1 < (l0_1.length : Int) then (if a2 < (t128.length : Int) then (some (((t125.set (a1 : Int).toNat (rd l0_0 a2)).set (a2 : Int).toNat (rd l0_0 a1)), ((t128.set (a1 : Int).toNat (rd l0_1 a2)).set (a2 : Int).toNat (rd l0_1 a1)), true)) else (none)) else (none)) else (none)) else (none)) else (none)) else (none)) else (none)) else (none)) else (none)) else (none))) = some (r1, r2, r3) := H
        have A21 := Aside0.mk A210
        clear A210
        replace H := Option.bind_eq_some_iff.mp H
        obtain ⟨t128, A220, H⟩ := H
        replace H : (if 0 ≤ a2 then (if a2 < (l0_0.length : Int) then (if 0 ≤ a1 then (if a1 < (t125.length : Int) then (if a1 < (l0_0.length : Int) then (if a2 < (t125.length : Int) then (if a2 < (l0_1.length : Int) then (if a1 < (t128.length : Int) then (if a1 < (l0_1.length : Int) then (if a2 < (t128.length : Int) then (some (((t125.set (a1 : Int).toNat (rd l0_0 a2)).set (a2 : Int).toNat (rd l0_0 a1)), ((t128.set (a1 : Int).toNat (rd l0_1 a2)).set (a2 : Int).toNat (rd l0_1 a1)), true)) else (none)) else (none)) else (none)) else (none)) else (none)) else (none)) else (none)) else (none)) else (none)) else (none)) = some (r1, r2, r3) := H
        have A22 := Aside0.mk A220
        clear A220
        by_cases c23 : 0 ≤ a2
        · rw [if_pos c23] at H
          have c23b0 : decide (0 ≤ a2) = true := decide_eq_true c23
          clear c23
          by_cases c24 : a2 < (l0_0.length : Int)
          · rw [if_pos c24] at H
            have c24b0 : decide (a2 < (l0_0.length : Int)) = true := decide_eq_true c24
            clear c24
            by_cases c25 : 0 ≤ a1
            · rw [if_pos c25] at H
              have c25b0 : decide (0 ≤ a1) = true := decide_eq_true c25
              clear c25
              by_cases c26 : a1 < (t125.length : Int)
              · rw [if_pos c26] at H
                have c26b0 : decide (a1 < (t125.length : Int)) = true := decide_eq_true c26
                clear c26
                obtain ⟨y133, hy133⟩ : ∃ y_ : List Int, y_ = (t125.set (a1 : Int).toNat (rd l0_0 a2)) := ⟨_, rfl⟩
                replace H : (if a1 < (l0_0.length : Int) then (if a2 < (t125.length : Int) then (if a2 < (l0_1.length : Int) then (if a1 < (t128.length : Int) then (if a1 < (l0_1.length : Int) then (if a2 < (t128.length : Int) then (some ((y133.set (a2 : Int).toNat (rd l0_0 a1)), ((t128.set (a1 : Int).toNat (rd l0_1 a2)).set (a2 : Int).toNat (rd l0_1 a1)), true)) else (none)) else (none)) else (none)) else (none)) else (none)) else (none)) = some (r1, r2, r3) := by first | (rw [hy133]; with_reducible exact H) | (have H2_ := (Option.bind_some _ _).symm.trans H; rw [hy133]; with_reducible exact H2_) | (have H2_ := (Option.bind_some _ _).symm.trans H; with_reducible exact H2_) | with_reducible exact H | (rw [hy133]; exact H) | exact H
                have Ny133 := Aside0.mk hy133
                clear hy133
                by_cases c28 : a1 < (l0_0.length : Int)
                · rw [if_pos c28] at H
                  have c28b0 : decide (a1 < (l0_0.length : Int)) = true := decide_eq_true c28
                  clear c28
                  by_cases c29 : a2 < (t125.length : Int)
                  · rw [if_pos c29] at H
                    have c29b0 : decide (a2 < (t125.length : Int)) = true := decide_eq_true c29
                    clear c29
                    obtain ⟨y135, hy135⟩ : ∃ y_ : List Int, y_ = (y133.set (a2 : Int).toNat (rd l0_0 a1)) := ⟨_, rfl⟩
                    replace H : (if a2 < (l0_1.length : Int) then (if a1 < (t128.length : Int) then (if a1 < (l0_1.length : Int) then (if a2 < (t128.length : Int) then (some (y135, ((t128.set (a1 : Int).toNat (rd l0_1 a2)).set (a2 : Int).toNat (rd l0_1 a1)), true)) else (none)) else (none)) else (none)) else (none)) = some (r1, r2, r3) := by first | (rw [hy135]; with_reducible exact H) | (have H2_ := (Option.bind_some _ _).symm.trans H; rw [hy135]; with_reducible exact H2_) | (have H2_ := (Option.bind_some _ _).symm.trans H; with_reducible exact H2_) | with_reducible exact H | (rw [hy135]; exact H) | exact H
                    have Ny135 := Aside0.mk hy135
                    clear hy135
                    by_cases c31 : a2 < (l0_1.length : Int)
                    · rw [if_pos c31] at H
                      have c31b0 : decide (a2 < (l0_1.length : Int)) = true := decide_eq_true c31
                      clear c31
                      by_cases c32 : a1 < (t128.length : Int)
                      · rw [if_pos c32] at H
                        have c32b0 : decide (a1 < (t128.length : Int)) = true := decide_eq_true c32
                        clear c32
                        obtain ⟨y137, hy137⟩ : ∃ y_ : List Int, y_ = (t128.set (a1 : Int).toNat (rd l0_1 a2)) := ⟨_, rfl⟩
                        replace H : (if a1 < (l0_1.length : Int) then (if a2 < (t128.length : Int) then (some (y135, (y137.set (a2 : Int).toNat (rd l0_1 a1)), true)) else (none)) else (none)) = some (r1, r2, r3) := by first | (rw [hy137]; with_reducible exact H) | (have H2_ := (Option.bind_some _ _).symm.trans H; rw [hy137]; with_reducible exact H2_) | (have H2_ := (Option.bind_some _ _).symm.trans H; with_reducible exact H2_) | with_reducible exact H | (rw [hy137]; exact H) | exact H
                        have Ny137 := Aside0.mk hy137
                        clear hy137
                        by_cases c34 : a1 < (l0_1.length : Int)
                        · rw [if_pos c34] at H
                          have c34b0 : decide (a1 < (l0_1.length : Int)) = true := decide_eq_true c34
                          clear c34
                          by_cases c35 : a2 < (t128.length : Int)
                          · rw [if_pos c35] at H
                            have c35b0 : decide (a2 < (t128.length : Int)) = true := decide_eq_true c35
                            clear c35
                            obtain ⟨y139, hy139⟩ : ∃ y_ : List Int, y_ = (y137.set (a2 : Int).toNat (rd l0_1 a1)) := ⟨_, rfl⟩
                            replace H : (some (y135, y139, true)) = some (r1, r2, r3) := by first | (rw [hy139]; with_reducible exact H) | (have H2_ := (Option.bind_some _ _).symm.trans H; rw [hy139]; with_reducible exact H2_) | (have H2_ := (Option.bind_some _ _).symm.trans H; with_reducible exact H2_) | with_reducible exact H | (rw [hy139]; exact H) | exact H
                            have Ny139 := Aside0.mk hy139
                            clear hy139
                            simp only [Option.some.injEq, Prod.mk.injEq] at H
                            obtain ⟨rfl, rfl, rfl⟩ := H
                            try go_wp2
                            have n0_ := Aside0.mk (blk_drew BK121.out)
                            have n1_ := Aside0.mk (blk_drew BK122.out)
                            have n2_ := Aside0.mk (below_drew1 HB.out)
                            clear BK121
                            clear BK122
                            clear HB
                            have BK121 := n0_
                            have BK122 := n1_
                            have HB := n2_
                            clear n0_ n1_ n2_
                            refine start_ (n := 9) (S := fun w' => w'.cell? ⟨gb121, 0, none⟩ = some (.slice A0_0 l0_0.length c0_0) ∧ w'.cell? ⟨gb121, 1, none⟩ = some (.slice A0_1 l0_1.length c0_1)) (ds := []) #[false, false, false, false, false, false, false, false, false] (by kernel_rfl) rfl rfl ⟨(blk_cell BK121.out 0).trans rfl, (blk_cell BK121.out 1).trans rfl⟩ (fun hHeld => ?_); refine with_tabW spec_SwapVessels.tab3 spec_SwapVessels.bits3 (fun HT_ HW_ => ?_)
                            generalize wc.drew = w37 at BK121 BK122 HB hHeld ⊢
                            refine pure_ (i := 0) (N := some 20) (v := ?_) (a' := ?_) #[true, false, false, false, false, false, false, false, false] rfl rfl (any_of HT_.out (by kernel_rfl)) (fun _ _ _ h => h) (Or.inl ⟨by rfl, ?_⟩) ?_ ?_
                            rotate_left
                            · intro w'
                              go_simp
                              with_reducible rfl
                            rotate_left
                            · simp only [Act.put, List.setIfInBounds_toArray, List.set_cons_zero, List.set_cons_succ, i64_w, i32_w]
                              rfl
                            refine pure_ (i := 3) (N := some 23) (v := ?_) (a' := ?_) #[true, false, false, true, false, false, false, false, false] rfl rfl (any_of HT_.out (by kernel_rfl)) (fun _ _ _ h => h) (Or.inl ⟨by rfl, ?_⟩) ?_ ?_
                            rotate_left
                            · intro w'
                              go_simp
                              with_reducible rfl
                            rotate_left
                            · simp only [Act.put, List.setIfInBounds_toArray, List.set_cons_zero, List.set_cons_succ, i64_w, i32_w]
                              rfl
                            refine take_ (i := 1) (N := some 21) (v := ?_) (a' := ?_) #[true, true, false, true, false, false, false, false, false] rfl rfl (take_ofW HT_.out HW_.out (by kernel_rfl)) (fun _ _ _ h => h) (Or.inl ⟨by rfl, ?_⟩) hHeld ?_ ?_
                            rotate_left
                            · rintro w' ⟨s0, s1⟩
                              go_simp
                              with_reducible rfl
                            rotate_left
                            · simp only [Act.put, List.setIfInBounds_toArray, List.set_cons_zero, List.set_cons_succ, i64_w, i32_w]
                              rfl
                            refine take_ (i := 4) (N := some 24) (v := ?_) (a' := ?_) #[true, true, false, true, true, false, false, false, false] rfl rfl (take_ofW HT_.out HW_.out (by kernel_rfl)) (fun _ _ _ h => h) (Or.inl ⟨by rfl, ?_⟩) hHeld ?_ ?_
                            rotate_left
                            · rintro w' ⟨s0, s1⟩
                              go_simp
                              with_reducible rfl
                            rotate_left
                            · simp only [Act.put, List.setIfInBounds_toArray, List.set_cons_zero, List.set_cons_succ, i64_w, i32_w]
                              rfl
                            refine join_ (σ := Value × Value × Nat) 1 #[true, true, true, true, true, true, true, true, false] (fun s_ => [(22, s_.1), (25, s_.2.1), (8, .pointer (some ⟨s_.2.2, 0, none⟩)), (26, .agg #[s_.1, s_.2.1])]) (fun s_ w' => (w'.cell? ⟨gb121, 0, none⟩ = some (.slice A0_0 l0_0.length c0_0) ∧ w'.cell? ⟨gb121, 1, none⟩ = some (.slice A0_1 l0_1.length c0_1)) ∧ (Kd.R (Kd.int .i64) 3 w' w.heap.size (fun k_ => some k_ ≠ (s_.2.1 : Value).ownBlock) s_.1 t125) ∧ (Kd.R (Kd.int .i64) 3 w' w.heap.size (fun k_ => some k_ ≠ (s_.1 : Value).ownBlock) s_.2.1 t128) ∧ (w'.heap[gb121]? = some (.cells #[.slice A0_0 l0_0.length c0_0, .slice A0_1 l0_1.length c0_1] 26 (0, 0))) ∧ (w'.heap[gb122]? = some (.cells #[.slice none 0 0, .slice none 0 0] 26 (0, 0))) ∧ (w'.heap[s_.2.2]? = some (.cells #[.slice none 0 0, .slice none 0 0] 26 (0, 0))) ∧ (w.heap.size ≤ s_.2.2) ∧ (w.heap.size ≤ s_.2.2) ∧ (gb121 ≠ s_.2.2) ∧ (s_.2.2 ≠ gb121) ∧ (gb122 ≠ s_.2.2) ∧ (s_.2.2 ≠ gb122) ∧ (Below w.heap.size w w')) ?_ ?_
                            rotate_left
                            · intro hCont
                              refine two_ (i := 2) (j := 7) (Ni := some 22) (Nj := some 8) #[true, true, true, true, true, false, false, false, false] #[true, true, false, true, true, false, false, true, false] rfl rfl rfl rfl (two_of HT_.out (by kernel_rfl)) (by decide) (by decide) (fun K hK => ?_) (fun K hK => ?_)
                              · skip
                                refine goes_ Try.func62 (by kernel_rfl) rfl #[.slice A0_0 l0_0.length c0_0] (by rfl) rfl rfl (by (try simp only [List.map_toArray, List.map_cons, List.map_nil]); first | done | rfl | (simp only [List.length_drop, List.length_take]; rfl)) ?_
                                with_reducible refine (spec_l1Own.calls _ _ l0_0 t125 _ ?side1 ?side2 A21.out).mono ?_
                                (case side1 => repeat (first | exact (Kd.C_below HR0_0.out HB.out) | (with_reducible refine Kd.C_alloc ?_ _) | (with_reducible refine Kd.C_drewN ?_ _) | (with_reducible refine Kd.C_drew ?_)))
                                (case side2 => exact HC0_0.out)
                                rintro e w38 ⟨v126, rfl, ho0, hb⟩
                                refine ⟨_, rfl, ?_⟩
                                have n0_ := Aside0.mk (Kd.R_lower ho0 (below_size (xs HB.out)))
                                have n1_ := Aside0.mk (blk_below (g := gb121) (o := .cells #[.slice A0_0 l0_0.length c0_0, .slice A0_1 l0_1.length c0_1] 26 (0, 0)) (xb BK121.out) hb)
                                have n2_ := Aside0.mk (blk_below (g := gb122) (o := .cells #[.slice none 0 0, .slice none 0 0] 26 (0, 0)) (xb BK122.out) hb)
                                have n3_ := Aside0.mk (below_step (xs HB.out) hb)
                                clear BK121
                                clear BK122
                                clear HB
                                have HO127 := n0_
                                have BK121 := n1_
                                have BK122 := n2_
                                have HB := n3_
                                clear n0_ n1_ n2_ n3_
                                (try clear hb)
                                (try clear hb2)
                                (try clear hk)
                                (try clear hi)
                                (try clear ho0)
                                refine hK.out _ _ ⟨(blk_cell BK121.out 0).trans rfl, (blk_cell BK121.out 1).trans rfl⟩ (fun hHeld => ?_)
                                clear hK K
                                refine norm_ (a' := ?_) ?_ ?_
                                rotate_left
                                · show Act.put _ (some 22) _ = _
                                  simp only [Act.put, List.setIfInBounds_toArray, List.set_cons_zero, List.set_cons_succ, i64_w, i32_w]
                                  rfl
                                refine two_ (i := 5) (j := 7) (Ni := some 25) (Nj := some 8) #[true, true, true, true, true, true, false, false, false] #[true, true, true, true, true, false, false, true, false] rfl rfl rfl rfl (two_of HT_.out (by kernel_rfl)) (by decide) (by decide) (fun K hK => ?_) (fun K hK => ?_)
                                · skip
                                  refine goes_ Try.func62 (by kernel_rfl) rfl #[.slice A0_1 l0_1.length c0_1] (by rfl) rfl rfl (by (try simp only [List.map_toArray, List.map_cons, List.map_nil]); first | done | rfl | (simp only [List.length_drop, List.length_take]; rfl)) ?_
                                  with_reducible refine (spec_l1Own.calls _ _ l0_1 t128 _ ?side1 ?side2 A22.out).mono ?_
                                  (case side1 => repeat (first | exact (Kd.C_below HR0_1.out HB.out) | (with_reducible refine Kd.C_alloc ?_ _) | (with_reducible refine Kd.C_drewN ?_ _) | (with_reducible refine Kd.C_drew ?_)))
                                  (case side2 => exact HC0_1.out)
                                  rintro e w39 ⟨v129, rfl, ho0, hb⟩
                                  refine ⟨_, rfl, ?_⟩
                                  have n0_ := Aside0.mk (Kd.R_elder' (xr HO127.out) (Kd.R_base ho0) hb)
                                  have n1_ := Aside0.mk (Kd.R_lower (Kd.R_new' ho0 (Kd.R_lt (xr HO127.out))) (below_size (xs HB.out)))
                                  have n2_ := Aside0.mk (blk_below (g := gb121) (o := .cells #[.slice A0_0 l0_0.length c0_0, .slice A0_1 l0_1.length c0_1] 26 (0, 0)) (xb BK121.out) hb)
                                  have n3_ := Aside0.mk (blk_below (g := gb122) (o := .cells #[.slice none 0 0, .slice none 0 0] 26 (0, 0)) (xb BK122.out) hb)
                                  have n4_ := Aside0.mk (below_step (xs HB.out) hb)
                                  clear HO127
                                  clear BK121
                                  clear BK122
                                  clear HB
                                  have HO127 := n0_
                                  have HO130 := n1_
                                  have BK121 := n2_
                                  have BK122 := n3_
                                  have HB := n4_
                                  clear n0_ n1_ n2_ n3_ n4_
                                  (try clear hb)
                                  (try clear hb2)
                                  (try clear hk)
                                  (try clear hi)
                                  (try clear ho0)
                                  obtain ⟨Ao40, co40, eo40⟩ := Kd.R_slice HO130.out
                                  (first | subst eo40 | (injection eo40 with f1_ f2_ f3_; have f4_ := f1_.symm; have f5_ := f3_.symm; clear f1_ f2_ f3_; subst f4_; subst f5_))
                                  obtain ⟨Ao41, co41, eo41⟩ := Kd.R_slice HO127.out
                                  (first | subst eo41 | (injection eo41 with f1_ f2_ f3_; have f4_ := f1_.symm; have f5_ := f3_.symm; clear f1_ f2_ f3_; subst f4_; subst f5_))
                                  refine hK.out _ _ ⟨(blk_cell BK121.out 0).trans rfl, (blk_cell BK121.out 1).trans rfl⟩ (fun hHeld => ?_)
                                  clear hK K
                                  refine norm_ (a' := ?_) ?_ ?_
                                  rotate_left
                                  · show Act.put _ (some 25) _ = _
                                    simp only [Act.put, List.setIfInBounds_toArray, List.set_cons_zero, List.set_cons_succ, i64_w, i32_w]
                                    rfl
                                  refine pure_ (i := 6) (N := some 26) (v := ?_) (a' := ?_) #[true, true, true, true, true, true, true, false, false] rfl rfl (any_of HT_.out (by kernel_rfl)) (fun _ _ _ h => h) (Or.inl ⟨by rfl, ?_⟩) ?_ ?_
                                  rotate_left
                                  · intro w'
                                    go_simp
                                    with_reducible rfl
                                  rotate_left
                                  · simp only [Act.put, List.setIfInBounds_toArray, List.set_cons_zero, List.set_cons_succ, i64_w, i32_w]
                                    rfl
                                  refine one_ (i := 7) (N := some 8) #[true, true, true, true, true, true, true, true, false] rfl rfl (one_of HT_.out (by kernel_rfl)) (by decide) (fun K hK => ?_)
                                  refine box_step ?hg (N := 8) ?hd (cs := #[.slice none 0 0, .slice none 0 0]) (t := 26) ?hr ?_; (case hd => rfl); (case hg => rfl); (case hr => first | (go_simp; done) | (go_simp; rfl))
                                  intro gb131 hg w42 hbox hb
                                  have n0_ := Aside0.mk (Kd.R_below (xr HO127.out) hb)
                                  have n1_ := Aside0.mk (Kd.R_below (xr HO130.out) hb)
                                  have n2_ := Aside0.mk (blk_below (g := gb121) (o := .cells #[.slice A0_0 l0_0.length c0_0, .slice A0_1 l0_1.length c0_1] 26 (0, 0)) (xb BK121.out) hb)
                                  have n3_ := Aside0.mk (blk_below (g := gb122) (o := .cells #[.slice none 0 0, .slice none 0 0] 26 (0, 0)) (xb BK122.out) hb)
                                  have n4_ := Aside0.mk (below_step (xs HB.out) hb)
                                  have n5_ := Aside0.mk (hbox)
                                  have n6_ := Aside0.mk ((by rw [hg]; exact (below_size (xs HB.out)) : w.heap.size ≤ gb131))
                                  have n7_ := Aside0.mk ((by rw [hg]; exact (below_size (xs HB.out)) : w.heap.size ≤ gb131))
                                  have n8_ := Aside0.mk ((by rw [hg]; exact Nat.ne_of_lt (blk_lt (g := gb121) (o := .cells #[.slice A0_0 l0_0.length c0_0, .slice A0_1 l0_1.length c0_1] 26 (0, 0)) (xb BK121.out)) : gb121 ≠ gb131))
                                  have n9_ := Aside0.mk ((by rw [hg]; exact Nat.ne_of_gt (blk_lt (g := gb121) (o := .cells #[.slice A0_0 l0_0.length c0_0, .slice A0_1 l0_1.length c0_1] 26 (0, 0)) (xb BK121.out)) : gb131 ≠ gb121))
                                  have n10_ := Aside0.mk ((by rw [hg]; exact Nat.ne_of_lt (blk_lt (g := gb122) (o := .cells #[.slice none 0 0, .slice none 0 0] 26 (0, 0)) (xb BK122.out)) : gb122 ≠ gb131))
                                  have n11_ := Aside0.mk ((by rw [hg]; exact Nat.ne_of_gt (blk_lt (g := gb122) (o := .cells #[.slice none 0 0, .slice none 0 0] 26 (0, 0)) (xb BK122.out)) : gb131 ≠ gb122))
                                  clear HO127
                                  clear HO130
                                  clear BK121
                                  clear BK122
                                  clear HB
                                  have HO127 := n0_
                                  have HO130 := n1_
                                  have BK121 := n2_
                                  have BK122 := n3_
                                  have HB := n4_
                                  have BK131 := n5_
                                  have GW131 := n6_
                                  have GE131 := n7_
                                  have NB121_131 := n8_
                                  have NB131_121 := n9_
                                  have NB122_131 := n10_
                                  have NB131_122 := n11_
                                  clear n0_ n1_ n2_ n3_ n4_ n5_ n6_ n7_ n8_ n9_ n10_ n11_
                                  clear hb hbox hg
                                  refine hK.out _ _ ⟨(blk_cell BK121.out 0).trans rfl, (blk_cell BK121.out 1).trans rfl⟩ (fun hHeld => ?_)
                                  clear hK K
                                  refine norm_ (a' := ?_) ?_ ?_
                                  rotate_left
                                  · show Act.put _ (some 8) _ = _
                                    simp only [Act.put, List.setIfInBounds_toArray, List.set_cons_zero, List.set_cons_succ, i64_w, i32_w]
                                    rfl
                                  exact norm_ (by simp only [putAll, Act.put, List.setIfInBounds_toArray, List.set_cons_zero, List.set_cons_succ]) (hCont (.slice Ao41 t125.length co41, .slice Ao40 t128.length co40, gb131) _ ⟨hHeld, (by (with_reducible repeat (first | apply Kd.R_alloc | apply Kd.R_drewN | apply Kd.R_drew)); exact Kd.R_mono HO127.out (fun _ hk => hk.2)), (by (with_reducible repeat (first | apply Kd.R_alloc | apply Kd.R_drewN | apply Kd.R_drew)); exact Kd.R_mono HO130.out (fun _ hk => hk.2)), (xb BK121.out), (xb BK122.out), (xb BK131.out), GW131.out, GE131.out, NB121_131.out, NB131_121.out, NB122_131.out, NB131_122.out, (xs HB.out)⟩)
                                · skip
                                  refine box_step ?hg (N := 8) ?hd (cs := #[.slice none 0 0, .slice none 0 0]) (t := 26) ?hr ?_; (case hd => rfl); (case hg => rfl); (case hr => first | (go_simp; done) | (go_simp; rfl))
                                  intro gb131 hg w39 hbox hb
                                  have n0_ := Aside0.mk (Kd.R_below (xr HO127.out) hb)
                                  have n1_ := Aside0.mk (blk_below (g := gb121) (o := .cells #[.slice A0_0 l0_0.length c0_0, .slice A0_1 l0_1.length c0_1] 26 (0, 0)) (xb BK121.out) hb)
                                  have n2_ := Aside0.mk (blk_below (g := gb122) (o := .cells #[.slice none 0 0, .slice none 0 0] 26 (0, 0)) (xb BK122.out) hb)
                                  have n3_ := Aside0.mk (below_step (xs HB.out) hb)
                                  have n4_ := Aside0.mk (hbox)
                                  have n5_ := Aside0.mk ((by rw [hg]; exact (below_size (xs HB.out)) : w.heap.size ≤ gb131))
                                  have n6_ := Aside0.mk ((by rw [hg]; exact (below_size (xs HB.out)) : w.heap.size ≤ gb131))
                                  have n7_ := Aside0.mk ((by rw [hg]; exact Nat.ne_of_lt (blk_lt (g := gb121) (o := .cells #[.slice A0_0 l0_0.length c0_0, .slice A0_1 l0_1.length c0_1] 26 (0, 0)) (xb BK121.out)) : gb121 ≠ gb131))
                                  have n8_ := Aside0.mk ((by rw [hg]; exact Nat.ne_of_gt (blk_lt (g := gb121) (o := .cells #[.slice A0_0 l0_0.length c0_0, .slice A0_1 l0_1.length c0_1] 26 (0, 0)) (xb BK121.out)) : gb131 ≠ gb121))
                                  have n9_ := Aside0.mk ((by rw [hg]; exact Nat.ne_of_lt (blk_lt (g := gb122) (o := .cells #[.slice none 0 0, .slice none 0 0] 26 (0, 0)) (xb BK122.out)) : gb122 ≠ gb131))
                                  have n10_ := Aside0.mk ((by rw [hg]; exact Nat.ne_of_gt (blk_lt (g := gb122) (o := .cells #[.slice none 0 0, .slice none 0 0] 26 (0, 0)) (xb BK122.out)) : gb131 ≠ gb122))
                                  clear HO127
                                  clear BK121
                                  clear BK122
                                  clear HB
                                  have HO127 := n0_
                                  have BK121 := n1_
                                  have BK122 := n2_
                                  have HB := n3_
                                  have BK131 := n4_
                                  have GW131 := n5_
                                  have GE131 := n6_
                                  have NB121_131 := n7_
                                  have NB131_121 := n8_
                                  have NB122_131 := n9_
                                  have NB131_122 := n10_
                                  clear n0_ n1_ n2_ n3_ n4_ n5_ n6_ n7_ n8_ n9_ n10_
                                  clear hb hbox hg
                                  refine hK.out _ _ ⟨(blk_cell BK121.out 0).trans rfl, (blk_cell BK121.out 1).trans rfl⟩ (fun hHeld => ?_)
                                  clear hK K
                                  refine norm_ (a' := ?_) ?_ ?_
                                  rotate_left
                                  · show Act.put _ (some 8) _ = _
                                    simp only [Act.put, List.setIfInBounds_toArray, List.set_cons_zero, List.set_cons_succ, i64_w, i32_w]
                                    rfl
                                  refine one_ (i := 5) (N := some 25) #[true, true, true, true, true, true, false, true, false] rfl rfl (one_of HT_.out (by kernel_rfl)) (by decide) (fun K hK => ?_)
                                  refine goes_ Try.func62 (by kernel_rfl) rfl #[.slice A0_1 l0_1.length c0_1] (by rfl) rfl rfl (by (try simp only [List.map_toArray, List.map_cons, List.map_nil]); first | done | rfl | (simp only [List.length_drop, List.length_take]; rfl)) ?_
                                  with_reducible refine (spec_l1Own.calls _ _ l0_1 t128 _ ?side1 ?side2 A22.out).mono ?_
                                  (case side1 => repeat (first | exact (Kd.C_below HR0_1.out HB.out) | (with_reducible refine Kd.C_alloc ?_ _) | (with_reducible refine Kd.C_drewN ?_ _) | (with_reducible refine Kd.C_drew ?_)))
                                  (case side2 => exact HC0_1.out)
                                  rintro e w40 ⟨v129, rfl, ho0, hb⟩
                                  refine ⟨_, rfl, ?_⟩
                                  have n0_ := Aside0.mk (Kd.R_elder' (xr HO127.out) (Kd.R_base ho0) hb)
                                  have n1_ := Aside0.mk (Kd.R_lower (Kd.R_new' ho0 (Kd.R_lt (xr HO127.out))) (below_size (xs HB.out)))
                                  have n2_ := Aside0.mk (blk_below (g := gb121) (o := .cells #[.slice A0_0 l0_0.length c0_0, .slice A0_1 l0_1.length c0_1] 26 (0, 0)) (xb BK121.out) hb)
                                  have n3_ := Aside0.mk (blk_below (g := gb122) (o := .cells #[.slice none 0 0, .slice none 0 0] 26 (0, 0)) (xb BK122.out) hb)
                                  have n4_ := Aside0.mk (blk_below (g := gb131) (o := .cells #[.slice none 0 0, .slice none 0 0] 26 (0, 0)) (xb BK131.out) hb)
                                  have n5_ := Aside0.mk (below_step (xs HB.out) hb)
                                  clear HO127
                                  clear BK121
                                  clear BK122
                                  clear BK131
                                  clear HB
                                  have HO127 := n0_
                                  have HO130 := n1_
                                  have BK121 := n2_
                                  have BK122 := n3_
                                  have BK131 := n4_
                                  have HB := n5_
                                  clear n0_ n1_ n2_ n3_ n4_ n5_
                                  (try clear hb)
                                  (try clear hb2)
                                  (try clear hk)
                                  (try clear hi)
                                  (try clear ho0)
                                  obtain ⟨Ao41, co41, eo41⟩ := Kd.R_slice HO130.out
                                  (first | subst eo41 | (injection eo41 with f1_ f2_ f3_; have f4_ := f1_.symm; have f5_ := f3_.symm; clear f1_ f2_ f3_; subst f4_; subst f5_))
                                  obtain ⟨Ao42, co42, eo42⟩ := Kd.R_slice HO127.out
                                  (first | subst eo42 | (injection eo42 with f1_ f2_ f3_; have f4_ := f1_.symm; have f5_ := f3_.symm; clear f1_ f2_ f3_; subst f4_; subst f5_))
                                  refine hK.out _ _ ⟨(blk_cell BK121.out 0).trans rfl, (blk_cell BK121.out 1).trans rfl⟩ (fun hHeld => ?_)
                                  clear hK K
                                  refine norm_ (a' := ?_) ?_ ?_
                                  rotate_left
                                  · show Act.put _ (some 25) _ = _
                                    simp only [Act.put, List.setIfInBounds_toArray, List.set_cons_zero, List.set_cons_succ, i64_w, i32_w]
                                    rfl
                                  refine pure_ (i := 6) (N := some 26) (v := ?_) (a' := ?_) #[true, true, true, true, true, true, true, true, false] rfl rfl (any_of HT_.out (by kernel_rfl)) (fun _ _ _ h => h) (Or.inl ⟨by rfl, ?_⟩) ?_ ?_
                                  rotate_left
                                  · intro w'
                                    go_simp
                                    with_reducible rfl
                                  rotate_left
                                  · simp only [Act.put, List.setIfInBounds_toArray, List.set_cons_zero, List.set_cons_succ, i64_w, i32_w]
                                    rfl
                                  exact norm_ (by simp only [putAll, Act.put, List.setIfInBounds_toArray, List.set_cons_zero, List.set_cons_succ]) (hCont (.slice Ao42 t125.length co42, .slice Ao41 t128.length co41, gb131) _ ⟨hHeld, (by (with_reducible repeat (first | apply Kd.R_alloc | apply Kd.R_drewN | apply Kd.R_drew)); exact Kd.R_mono HO127.out (fun _ hk => hk.2)), (by (with_reducible repeat (first | apply Kd.R_alloc | apply Kd.R_drewN | apply Kd.R_drew)); exact Kd.R_mono HO130.out (fun _ hk => hk.2)), (xb BK121.out), (xb BK122.out), (xb BK131.out), GW131.out, GE131.out, NB121_131.out, NB131_121.out, NB122_131.out, NB131_122.out, (xs HB.out)⟩)
                              · skip
                                refine box_step ?hg (N := 8) ?hd (cs := #[.slice none 0 0, .slice none 0 0]) (t := 26) ?hr ?_; (case hd => rfl); (case hg => rfl); (case hr => first | (go_simp; done) | (go_simp; rfl))
                                intro gb131 hg w38 hbox hb
                                have n0_ := Aside0.mk (blk_below (g := gb121) (o := .cells #[.slice A0_0 l0_0.length c0_0, .slice A0_1 l0_1.length c0_1] 26 (0, 0)) (xb BK121.out) hb)
                                have n1_ := Aside0.mk (blk_below (g := gb122) (o := .cells #[.slice none 0 0, .slice none 0 0] 26 (0, 0)) (xb BK122.out) hb)
                                have n2_ := Aside0.mk (below_step (xs HB.out) hb)
                                have n3_ := Aside0.mk (hbox)
                                have n4_ := Aside0.mk ((by rw [hg]; exact (below_size (xs HB.out)) : w.heap.size ≤ gb131))
                                have n5_ := Aside0.mk ((by rw [hg]; exact (below_size (xs HB.out)) : w.heap.size ≤ gb131))
                                have n6_ := Aside0.mk ((by rw [hg]; exact Nat.ne_of_lt (blk_lt (g := gb121) (o := .cells #[.slice A0_0 l0_0.length c0_0, .slice A0_1 l0_1.length c0_1] 26 (0, 0)) (xb BK121.out)) : gb121 ≠ gb131))
                                have n7_ := Aside0.mk ((by rw [hg]; exact Nat.ne_of_gt (blk_lt (g := gb121) (o := .cells #[.slice A0_0 l0_0.length c0_0, .slice A0_1 l0_1.length c0_1] 26 (0, 0)) (xb BK121.out)) : gb131 ≠ gb121))
                                have n8_ := Aside0.mk ((by rw [hg]; exact Nat.ne_of_lt (blk_lt (g := gb122) (o := .cells #[.slice none 0 0, .slice none 0 0] 26 (0, 0)) (xb BK122.out)) : gb122 ≠ gb131))
                                have n9_ := Aside0.mk ((by rw [hg]; exact Nat.ne_of_gt (blk_lt (g := gb122) (o := .cells #[.slice none 0 0, .slice none 0 0] 26 (0, 0)) (xb BK122.out)) : gb131 ≠ gb122))
                                clear BK121
                                clear BK122
                                clear HB
                                have BK121 := n0_
                                have BK122 := n1_
                                have HB := n2_
                                have BK131 := n3_
                                have GW131 := n4_
                                have GE131 := n5_
                                have NB121_131 := n6_
                                have NB131_121 := n7_
                                have NB122_131 := n8_
                                have NB131_122 := n9_
                                clear n0_ n1_ n2_ n3_ n4_ n5_ n6_ n7_ n8_ n9_
                                clear hb hbox hg
                                refine hK.out _ _ ⟨(blk_cell BK121.out 0).trans rfl, (blk_cell BK121.out 1).trans rfl⟩ (fun hHeld => ?_)
                                clear hK K
                                refine norm_ (a' := ?_) ?_ ?_
                                rotate_left
                                · show Act.put _ (some 8) _ = _
                                  simp only [Act.put, List.setIfInBounds_toArray, List.set_cons_zero, List.set_cons_succ, i64_w, i32_w]
                                  rfl
                                refine one_ (i := 2) (N := some 22) #[true, true, true, true, true, false, false, true, false] rfl rfl (one_of HT_.out (by kernel_rfl)) (by decide) (fun K hK => ?_)
                                refine goes_ Try.func62 (by kernel_rfl) rfl #[.slice A0_0 l0_0.length c0_0] (by rfl) rfl rfl (by (try simp only [List.map_toArray, List.map_cons, List.map_nil]); first | done | rfl | (simp only [List.length_drop, List.length_take]; rfl)) ?_
                                with_reducible refine (spec_l1Own.calls _ _ l0_0 t125 _ ?side1 ?side2 A21.out).mono ?_
                                (case side1 => repeat (first | exact (Kd.C_below HR0_0.out HB.out) | (with_reducible refine Kd.C_alloc ?_ _) | (with_reducible refine Kd.C_drewN ?_ _) | (with_reducible refine Kd.C_drew ?_)))
                                (case side2 => exact HC0_0.out)
                                rintro e w39 ⟨v126, rfl, ho0, hb⟩
                                refine ⟨_, rfl, ?_⟩
                                have n0_ := Aside0.mk (Kd.R_lower ho0 (below_size (xs HB.out)))
                                have n1_ := Aside0.mk (blk_below (g := gb121) (o := .cells #[.slice A0_0 l0_0.length c0_0, .slice A0_1 l0_1.length c0_1] 26 (0, 0)) (xb BK121.out) hb)
                                have n2_ := Aside0.mk (blk_below (g := gb122) (o := .cells #[.slice none 0 0, .slice none 0 0] 26 (0, 0)) (xb BK122.out) hb)
                                have n3_ := Aside0.mk (blk_below (g := gb131) (o := .cells #[.slice none 0 0, .slice none 0 0] 26 (0, 0)) (xb BK131.out) hb)
                                have n4_ := Aside0.mk (below_step (xs HB.out) hb)
                                clear BK121
                                clear BK122
                                clear BK131
                                clear HB
                                have HO127 := n0_
                                have BK121 := n1_
                                have BK122 := n2_
                                have BK131 := n3_
                                have HB := n4_
                                clear n0_ n1_ n2_ n3_ n4_
                                (try clear hb)
                                (try clear hb2)
                                (try clear hk)
                                (try clear hi)
                                (try clear ho0)
                                refine hK.out _ _ ⟨(blk_cell BK121.out 0).trans rfl, (blk_cell BK121.out 1).trans rfl⟩ (fun hHeld => ?_)
                                clear hK K
                                refine norm_ (a' := ?_) ?_ ?_
                                rotate_left
                                · show Act.put _ (some 22) _ = _
                                  simp only [Act.put, List.setIfInBounds_toArray, List.set_cons_zero, List.set_cons_succ, i64_w, i32_w]
                                  rfl
                                refine one_ (i := 5) (N := some 25) #[true, true, true, true, true, true, false, true, false] rfl rfl (one_of HT_.out (by kernel_rfl)) (by decide) (fun K hK => ?_)
                                refine goes_ Try.func62 (by kernel_rfl) rfl #[.slice A0_1 l0_1.length c0_1] (by rfl) rfl rfl (by (try simp only [List.map_toArray, List.map_cons, List.map_nil]); first | done | rfl | (simp only [List.length_drop, List.length_take]; rfl)) ?_
                                with_reducible refine (spec_l1Own.calls _ _ l0_1 t128 _ ?side1 ?side2 A22.out).mono ?_
                                (case side1 => repeat (first | exact (Kd.C_below HR0_1.out HB.out) | (with_reducible refine Kd.C_alloc ?_ _) | (with_reducible refine Kd.C_drewN ?_ _) | (with_reducible refine Kd.C_drew ?_)))
                                (case side2 => exact HC0_1.out)
                                rintro e w40 ⟨v129, rfl, ho0, hb⟩
                                refine ⟨_, rfl, ?_⟩
                                have n0_ := Aside0.mk (Kd.R_elder' (xr HO127.out) (Kd.R_base ho0) hb)
                                have n1_ := Aside0.mk (Kd.R_lower (Kd.R_new' ho0 (Kd.R_lt (xr HO127.out))) (below_size (xs HB.out)))
                                have n2_ := Aside0.mk (blk_below (g := gb121) (o := .cells #[.slice A0_0 l0_0.length c0_0, .slice A0_1 l0_1.length c0_1] 26 (0, 0)) (xb BK121.out) hb)
                                have n3_ := Aside0.mk (blk_below (g := gb122) (o := .cells #[.slice none 0 0, .slice none 0 0] 26 (0, 0)) (xb BK122.out) hb)
                                have n4_ := Aside0.mk (blk_below (g := gb131) (o := .cells #[.slice none 0 0, .slice none 0 0] 26 (0, 0)) (xb BK131.out) hb)
                                have n5_ := Aside0.mk (below_step (xs HB.out) hb)
                                clear HO127
                                clear BK121
                                clear BK122
                                clear BK131
                                clear HB
                                have HO127 := n0_
                                have HO130 := n1_
                                have BK121 := n2_
                                have BK122 := n3_
                                have BK131 := n4_
                                have HB := n5_
                                clear n0_ n1_ n2_ n3_ n4_ n5_
                                (try clear hb)
                                (try clear hb2)
                                (try clear hk)
                                (try clear hi)
                                (try clear ho0)
                                obtain ⟨Ao41, co41, eo41⟩ := Kd.R_slice HO130.out
                                (first | subst eo41 | (injection eo41 with f1_ f2_ f3_; have f4_ := f1_.symm; have f5_ := f3_.symm; clear f1_ f2_ f3_; subst f4_; subst f5_))
                                obtain ⟨Ao42, co42, eo42⟩ := Kd.R_slice HO127.out
                                (first | subst eo42 | (injection eo42 with f1_ f2_ f3_; have f4_ := f1_.symm; have f5_ := f3_.symm; clear f1_ f2_ f3_; subst f4_; subst f5_))
                                refine hK.out _ _ ⟨(blk_cell BK121.out 0).trans rfl, (blk_cell BK121.out 1).trans rfl⟩ (fun hHeld => ?_)
                                clear hK K
                                refine norm_ (a' := ?_) ?_ ?_
                                rotate_left
                                · show Act.put _ (some 25) _ = _
                                  simp only [Act.put, List.setIfInBounds_toArray, List.set_cons_zero, List.set_cons_succ, i64_w, i32_w]
                                  rfl
                                refine pure_ (i := 6) (N := some 26) (v := ?_) (a' := ?_) #[true, true, true, true, true, true, true, true, false] rfl rfl (any_of HT_.out (by kernel_rfl)) (fun _ _ _ h => h) (Or.inl ⟨by rfl, ?_⟩) ?_ ?_
                                rotate_left
                                · intro w'
                                  go_simp
                                  with_reducible rfl
                                rotate_left
                                · simp only [Act.put, List.setIfInBounds_toArray, List.set_cons_zero, List.set_cons_succ, i64_w, i32_w]
                                  rfl
                                exact norm_ (by simp only [putAll, Act.put, List.setIfInBounds_toArray, List.set_cons_zero, List.set_cons_succ]) (hCont (.slice Ao42 t125.length co42, .slice Ao41 t128.length co41, gb131) _ ⟨hHeld, (by (with_reducible repeat (first | apply Kd.R_alloc | apply Kd.R_drewN | apply Kd.R_drew)); exact Kd.R_mono HO127.out (fun _ hk => hk.2)), (by (with_reducible repeat (first | apply Kd.R_alloc | apply Kd.R_drewN | apply Kd.R_drew)); exact Kd.R_mono HO130.out (fun _ hk => hk.2)), (xb BK121.out), (xb BK122.out), (xb BK131.out), GW131.out, GE131.out, NB121_131.out, NB131_121.out, NB122_131.out, NB131_122.out, (xs HB.out)⟩)
                            rintro ⟨v126, v129, gb131⟩ w43 ⟨hS_, h0_, h1_, h2_, h3_, h4_, h5_, h6_, h7_, h8_, h9_, h10_, h11_⟩
                            have n0_ : Aside0 (Kd.R (Kd.int .i64) 3 w43 w.heap.size (fun k_ => some k_ ≠ (v129 : Value).ownBlock) v126 t125) := ⟨h0_⟩
                            have n1_ : Aside0 (Kd.R (Kd.int .i64) 3 w43 w.heap.size (fun k_ => some k_ ≠ (v126 : Value).ownBlock) v129 t128) := ⟨h1_⟩
                            have n2_ : Aside0 (w43.heap[gb121]? = some (.cells #[.slice A0_0 l0_0.length c0_0, .slice A0_1 l0_1.length c0_1] 26 (0, 0))) := ⟨h2_⟩
                            have n3_ : Aside0 (w43.heap[gb122]? = some (.cells #[.slice none 0 0, .slice none 0 0] 26 (0, 0))) := ⟨h3_⟩
                            have n4_ : Aside0 (w43.heap[gb131]? = some (.cells #[.slice none 0 0, .slice none 0 0] 26 (0, 0))) := ⟨h4_⟩
                            have n5_ : Aside0 (w.heap.size ≤ gb131) := ⟨h5_⟩
                            have n6_ : Aside0 (w.heap.size ≤ gb131) := ⟨h6_⟩
                            have n7_ : Aside0 (gb121 ≠ gb131) := ⟨h7_⟩
                            have n8_ : Aside0 (gb131 ≠ gb121) := ⟨h8_⟩
                            have n9_ : Aside0 (gb122 ≠ gb131) := ⟨h9_⟩
                            have n10_ : Aside0 (gb131 ≠ gb122) := ⟨h10_⟩
                            have n11_ : Aside0 (Below w.heap.size w w43) := ⟨h11_⟩
                            clear BK121
                            clear BK122
                            clear HB
                            clear h0_ h1_ h2_ h3_ h4_ h5_ h6_ h7_ h8_ h9_ h10_ h11_
                            have HO127 := n0_
                            have HO130 := n1_
                            have BK121 := n2_
                            have BK122 := n3_
                            have BK131 := n4_
                            have GW131 := n5_
                            have GE131 := n6_
                            have NB121_131 := n7_
                            have NB131_121 := n8_
                            have NB122_131 := n9_
                            have NB131_122 := n10_
                            have HB := n11_
                            clear n0_ n1_ n2_ n3_ n4_ n5_ n6_ n7_ n8_ n9_ n10_ n11_
                            have hHeld : w43.cell? ⟨gb121, 0, none⟩ = some (.slice A0_0 l0_0.length c0_0) ∧ w43.cell? ⟨gb121, 1, none⟩ = some (.slice A0_1 l0_1.length c0_1) := hS_
                            obtain ⟨Ao44, co44, eo44⟩ := Kd.R_slice HO130.out
                            (first | subst eo44 | (injection eo44 with f1_ f2_ f3_; have f4_ := f1_.symm; have f5_ := f3_.symm; clear f1_ f2_ f3_; subst f4_; subst f5_))
                            obtain ⟨Ao45, co45, eo45⟩ := Kd.R_slice HO127.out
                            (first | subst eo45 | (injection eo45 with f1_ f2_ f3_; have f4_ := f1_.symm; have f5_ := f3_.symm; clear f1_ f2_ f3_; subst f4_; subst f5_))
                            refine norm_ (a' := ?_) ?_ ?_
                            rotate_left
                            · simp only [putAll, Act.put, List.setIfInBounds_toArray, List.set_cons_zero, List.set_cons_succ]
                              rfl
                            refine one_ (i := 8) (N := none) #[true, true, true, true, true, true, true, true, true] rfl rfl (one_of HT_.out (by kernel_rfl)) (by decide) (fun K hK => ?_)
                            have hs46 : w43.cell? ⟨gb131, 0, none⟩ = some (.slice none 0 0) := (blk_cell BK131.out 0).trans rfl
                            have hfs46 := blk_frozen BK131.out 0
                            have hns46_0 := NB121_131.out
                            have hns46_1 := NB122_131.out
                            have hms46_0 := NB131_121.out
                            have hms46_1 := NB131_122.out
                            have hs47 : w43.cell? ⟨gb131, 1, none⟩ = some (.slice none 0 0) := (blk_cell BK131.out 1).trans rfl
                            have hfs47 := blk_frozen BK131.out 1
                            have hns47_0 := NB121_131.out
                            have hns47_1 := NB122_131.out
                            have hms47_0 := NB131_121.out
                            have hms47_1 := NB131_122.out
                            refine skip_ (w1 := ?_) (by rfl) rfl ?_ ?_
                            rotate_left
                            · go_simp
                              rfl
                            refine hK.out _ _ ⟨((cell_far (p := ⟨gb131, _, none⟩) NB121_131.out _).trans (((cell_far (p := ⟨gb131, _, none⟩) NB121_131.out _).trans (hHeld.1)))), ((cell_far (p := ⟨gb131, _, none⟩) NB121_131.out _).trans (((cell_far (p := ⟨gb131, _, none⟩) NB121_131.out _).trans (hHeld.2))))⟩ (fun hHeld => ?_)
                            clear hK K
                            refine done_ (done_of HT_.out (by kernel_rfl)) ?_
                            try go_wp2
                            have n0_ : Aside0 (Kd.R (Kd.int .i64) 3 ((w43.setCell ⟨gb131, 0, none⟩ (.slice Ao45 t125.length co45)).setCell ⟨gb131, 1, none⟩ (.slice Ao44 t128.length co44)) w.heap.size (fun k_ => some k_ ≠ (.slice Ao44 t128.length co44 : Value).ownBlock) (.slice Ao45 t125.length co45) t125) := ⟨by (with_reducible repeat (first | apply Kd.R_alloc | apply Kd.R_drewN | apply Kd.R_drew)); exact Kd.R_mono (Kd.R_far (p := ⟨gb131, 1, none⟩) (Kd.R_far (p := ⟨gb131, 0, none⟩) (Kd.R_types HO127.out BK131.out (by decide)) (fun _ hk => hk.2) (.slice Ao45 t125.length co45)) (fun _ hk => hk.2) (.slice Ao44 t128.length co44)) (fun _ hk => hk.1)⟩
                            have n1_ : Aside0 (Kd.R (Kd.int .i64) 3 ((w43.setCell ⟨gb131, 0, none⟩ (.slice Ao45 t125.length co45)).setCell ⟨gb131, 1, none⟩ (.slice Ao44 t128.length co44)) w.heap.size (fun k_ => some k_ ≠ (.slice Ao45 t125.length co45 : Value).ownBlock) (.slice Ao44 t128.length co44) t128) := ⟨by (with_reducible repeat (first | apply Kd.R_alloc | apply Kd.R_drewN | apply Kd.R_drew)); exact Kd.R_mono (Kd.R_far (p := ⟨gb131, 1, none⟩) (Kd.R_far (p := ⟨gb131, 0, none⟩) (Kd.R_types HO130.out BK131.out (by decide)) (fun _ hk => hk.2) (.slice Ao45 t125.length co45)) (fun _ hk => hk.2) (.slice Ao44 t128.length co44)) (fun _ hk => hk.1)⟩
                            have n2_ : Aside0 (((w43.setCell ⟨gb131, 0, none⟩ (.slice Ao45 t125.length co45)).setCell ⟨gb131, 1, none⟩ (.slice Ao44 t128.length co44)).heap[gb121]? = some (.cells #[.slice A0_0 l0_0.length c0_0, .slice A0_1 l0_1.length c0_1] 26 (0, 0))) := ⟨xff NB121_131.out NB121_131.out BK121.out⟩
                            have n3_ : Aside0 (((w43.setCell ⟨gb131, 0, none⟩ (.slice Ao45 t125.length co45)).setCell ⟨gb131, 1, none⟩ (.slice Ao44 t128.length co44)).heap[gb122]? = some (.cells #[.slice none 0 0, .slice none 0 0] 26 (0, 0))) := ⟨xff NB122_131.out NB122_131.out BK122.out⟩
                            have n4_ : Aside0 (((w43.setCell ⟨gb131, 0, none⟩ (.slice Ao45 t125.length co45)).setCell ⟨gb131, 1, none⟩ (.slice Ao44 t128.length co44)).heap[gb131]? = some (.cells #[.slice Ao45 t125.length co45, .slice Ao44 t128.length co44] 26 (0, 0))) := ⟨by (with_reducible repeat (first | refine blk_drewN ?_ _ | refine blk_drew ?_ | refine blk_alloc ?_ _)); refine blk_put (cs := #[.slice Ao45 t125.length co45, .slice none 0 0]) ?_ 1 _ rfl; (with_reducible repeat (first | refine blk_drewN ?_ _ | refine blk_drew ?_ | refine blk_alloc ?_ _)); refine blk_put (cs := #[.slice none 0 0, .slice none 0 0]) ?_ 0 _ rfl; (with_reducible repeat (first | refine blk_drewN ?_ _ | refine blk_drew ?_ | refine blk_alloc ?_ _)); exact BK131.out⟩
                            have n5_ : Aside0 (Below w.heap.size w ((w43.setCell ⟨gb131, 0, none⟩ (.slice Ao45 t125.length co45)).setCell ⟨gb131, 1, none⟩ (.slice Ao44 t128.length co44))) := ⟨xs HB.out⟩
                            (try clear HO127)
                            (try clear HO130)
                            (try clear BK121)
                            (try clear BK122)
                            (try clear BK131)
                            (try clear HB)
                            generalize ((w43.setCell ⟨gb131, 0, none⟩ (.slice Ao45 t125.length co45)).setCell ⟨gb131, 1, none⟩ (.slice Ao44 t128.length co44)) = w48 at n0_ n1_ n2_ n3_ n4_ n5_ ⊢
                            have HO127 := n0_
                            have HO130 := n1_
                            have BK121 := n2_
                            have BK122 := n3_
                            have BK131 := n4_
                            have HB := n5_
                            clear n0_ n1_ n2_ n3_ n4_ n5_
                            have n0_ := Aside0.mk (Kd.R_drew HO127.out)
                            have n1_ := Aside0.mk (Kd.R_drew HO130.out)
                            have n2_ := Aside0.mk (blk_drew BK121.out)
                            have n3_ := Aside0.mk (blk_drew BK122.out)
                            have n4_ := Aside0.mk (blk_drew BK131.out)
                            have n5_ := Aside0.mk (below_drew1 HB.out)
                            clear HO127
                            clear HO130
                            clear BK121
                            clear BK122
                            clear BK131
                            clear HB
                            have HO127 := n0_
                            have HO130 := n1_
                            have BK121 := n2_
                            have BK122 := n3_
                            have BK131 := n4_
                            have HB := n5_
                            clear n0_ n1_ n2_ n3_ n4_ n5_
                            have p132 : 0 ≤ (a2 : Int) := of_decide_eq_true (by first | (with_reducible assumption) | assumption)
                            have q132 : a2 < (l0_0.length : Int) := of_decide_eq_true (by first | (with_reducible assumption) | assumption)
                            obtain ⟨ad132, e132, hx132_0⟩ := Kd.at_int HR0_0.out a2 p132 q132
                            have hw132_0 := hx132_0
                            cases e132
                            replace hx132_0 := (HB.out.cell (World.block_lt_of_cell? w _ hx132_0)).trans hx132_0
                            replace p132 := eq_true p132
                            replace q132 := eq_true q132
                            have p27 : 0 ≤ (a1 : Int) := of_decide_eq_true (by first | (with_reducible assumption) | assumption)
                            have q27 : (a1 : Int) < ((t125.length : Int) : Int) := of_decide_eq_true (by first | (with_reducible assumption) | assumption)
                            obtain ⟨go27, co27, eo27, gb27, gl27, cl27, HG27⟩ := Kd.R_form HO127.out (by omega)
                            (first | cases eo27 | (injection eo27 with ea_ en_ ec_; (first | subst ea_ | (injection ea_ with ea_; subst ea_)); subst ec_; clear en_))
                            have GB27 := Aside0.mk gb27
                            have GG27 := Aside0.mk HG27
                            clear gb27 gl27 HG27
                            obtain ⟨hx27_0, hf27_0⟩ := Kd.R_celln 0 HO127.out (a1 : Int) p27 q27
                            replace p27 := eq_true p27
                            replace q27 := eq_true q27
                            have HP50 := Kd.R_putn HO127.out (a1 : Int) (rd l0_0 a2)
                            rw [← Ny133.out] at HP50
                            have HQ50 := Aside0.mk HP50
                            clear HP50
                            refine start_ (n := 10) (S := fun w' => w'.cell? ⟨gb131, 0, none⟩ = some (.slice (some ⟨go27, 0, none⟩) t125.length co45) ∧ w'.cell? ⟨gb131, 1, none⟩ = some (.slice Ao44 t128.length co44) ∧ w'.cell? ⟨gb121, 0, none⟩ = some (.slice (some ad132) l0_0.length c0_0) ∧ w'.cell? ⟨gb121, 1, none⟩ = some (.slice A0_1 l0_1.length c0_1) ∧ w'.cell? (ad132.add (a2).toNat) = some (.int .i64 (rd l0_0 a2))) (ds := [9]) #[false, false, false, false, false, false, false, false, false, false] (by kernel_rfl) rfl rfl ⟨(blk_cell BK131.out 0).trans rfl, (blk_cell BK131.out 1).trans rfl, (blk_cell BK121.out 0).trans rfl, (blk_cell BK121.out 1).trans rfl, ((HB.out.cell (World.block_lt_of_cell? w _ hw132_0)).trans hw132_0)⟩ (fun hHeld => ?_); refine with_tabW spec_SwapVessels.tab4 spec_SwapVessels.bits4 (fun HT_ HW_ => ?_)
                            generalize w48.drew = w49 at HO127 HO130 BK121 BK122 BK131 HB GG27 HQ50 hf27_0 hx132_0 hx27_0 hHeld ⊢
                            refine pure_ (i := 0) (N := some 27) (v := ?_) (a' := ?_) #[true, false, false, false, false, false, false, false, false, false] rfl rfl (any_of HT_.out (by kernel_rfl)) (fun _ _ _ h => h) (Or.inl ⟨by rfl, ?_⟩) ?_ ?_
                            rotate_left
                            · intro w'
                              go_simp
                              with_reducible rfl
                            rotate_left
                            · simp only [Act.put, List.setIfInBounds_toArray, List.set_cons_zero, List.set_cons_succ, i64_w, i32_w]
                              rfl
                            refine pure_ (i := 2) (N := some 29) (v := ?_) (a' := ?_) #[true, false, true, false, false, false, false, false, false, false] rfl rfl (any_of HT_.out (by kernel_rfl)) (fun _ _ _ h => h) (Or.inl ⟨by rfl, ?_⟩) ?_ ?_
                            rotate_left
                            · intro w'
                              go_simp
                              with_reducible rfl
                            rotate_left
                            · simp only [Act.put, List.setIfInBounds_toArray, List.set_cons_zero, List.set_cons_succ, i64_w, i32_w]
                              rfl
                            refine pure_ (i := 3) (N := some 30) (v := ?_) (a' := ?_) #[true, false, true, true, false, false, false, false, false, false] rfl rfl (any_of HT_.out (by kernel_rfl)) (fun _ _ _ h => h) (Or.inl ⟨by rfl, ?_⟩) ?_ ?_
                            rotate_left
                            · intro w'
                              go_simp
                              with_reducible rfl
                            rotate_left
                            · simp only [Act.put, List.setIfInBounds_toArray, List.set_cons_zero, List.set_cons_succ, i64_w, i32_w]
                              rfl
                            refine pure_ (i := 5) (N := some 32) (v := ?_) (a' := ?_) #[true, false, true, true, false, true, false, false, false, false] rfl rfl (any_of HT_.out (by kernel_rfl)) (fun _ _ _ h => h) (Or.inl ⟨by rfl, ?_⟩) ?_ ?_
                            rotate_left
                            · intro w'
                              go_simp
                              with_reducible rfl
                            rotate_left
                            · simp only [Act.put, List.setIfInBounds_toArray, List.set_cons_zero, List.set_cons_succ, i64_w, i32_w]
                              rfl
                            refine take_ (i := 1) (N := some 28) (v := ?_) (a' := ?_) #[true, true, true, true, false, true, false, false, false, false] rfl rfl (take_ofW HT_.out HW_.out (by kernel_rfl)) (fun _ _ _ h => h) (Or.inl ⟨by rfl, ?_⟩) hHeld ?_ ?_
                            rotate_left
                            · rintro w' ⟨s0, s1, s2, s3, s4⟩
                              go_simp
                              with_reducible rfl
                            rotate_left
                            · simp only [Act.put, List.setIfInBounds_toArray, List.set_cons_zero, List.set_cons_succ, i64_w, i32_w]
                              rfl
                            refine take_ (i := 4) (N := some 31) (v := ?_) (a' := ?_) #[true, true, true, true, true, true, false, false, false, false] rfl rfl (take_ofW HT_.out HW_.out (by kernel_rfl)) (fun _ _ _ h => h) (Or.inl ⟨by rfl, ?_⟩) hHeld ?_ ?_
                            rotate_left
                            · rintro w' ⟨s0, s1, s2, s3, s4⟩
                              go_simp
                              with_reducible rfl
                            rotate_left
                            · simp only [Act.put, List.setIfInBounds_toArray, List.set_cons_zero, List.set_cons_succ, i64_w, i32_w]
                              rfl
                            refine pure_ (i := 6) (N := some 33) (v := ?_) (a' := ?_) #[true, true, true, true, true, true, true, false, false, false] rfl rfl (any_of HT_.out (by kernel_rfl)) (fun _ _ _ h => h) (Or.inl ⟨by rfl, ?_⟩) ?_ ?_
                            rotate_left
                            · intro w'
                              go_simp
                              with_reducible rfl
                            rotate_left
                            · simp only [Act.put, List.setIfInBounds_toArray, List.set_cons_zero, List.set_cons_succ, i64_w, i32_w]
                              rfl
                            refine take_ (i := 7) (N := some 34) (v := ?_) (a' := ?_) #[true, true, true, true, true, true, true, true, false, false] rfl rfl (take_ofW HT_.out HW_.out (by kernel_rfl)) (fun _ _ _ h => h) (Or.inl ⟨by rfl, ?_⟩) hHeld ?_ ?_
                            rotate_left
                            · rintro w' ⟨s0, s1, s2, s3, s4⟩
                              go_simp
                              with_reducible rfl
                            rotate_left
                            · simp only [Act.put, List.setIfInBounds_toArray, List.set_cons_zero, List.set_cons_succ, i64_w, i32_w]
                              rfl
                            refine pure_ (i := 8) (N := some 35) (v := ?_) (a' := ?_) #[true, true, true, true, true, true, true, true, true, false] rfl rfl (any_of HT_.out (by kernel_rfl)) (fun _ _ _ h => h) (Or.inl ⟨by rfl, ?_⟩) ?_ ?_
                            rotate_left
                            · intro w'
                              go_simp
                              with_reducible rfl
                            rotate_left
                            · simp only [Act.put, List.setIfInBounds_toArray, List.set_cons_zero, List.set_cons_succ, i64_w, i32_w]
                              rfl
                            refine last_ (i := 9) (N := none) #[true, true, true, true, true, true, true, true, true, true] rfl rfl (one_of HT_.out (by kernel_rfl)) (by decide) (fun K hK => ?_)
                            refine skip_ (w1 := ?_) (by rfl) rfl ?_ ?_
                            rotate_left
                            · go_simp
                              rfl
                            refine hK.out _ _ ?_
                            clear hK K
                            refine done_ (done_of HT_.out (by kernel_rfl)) ?_
                            have n0_ : Aside0 (Kd.R (Kd.int .i64) 3 (w49.setCell ⟨go27, (a1 : Int).toNat, none⟩ (.int .i64 (rd l0_0 a2))) w.heap.size (fun k_ => some k_ ≠ (.slice Ao44 t128.length co44 : Value).ownBlock) (.slice (some ⟨go27, 0, none⟩) t125.length co45) y133) := ⟨xr HQ50.out⟩
                            have n1_ : Aside0 (Kd.R (Kd.int .i64) 3 (w49.setCell ⟨go27, (a1 : Int).toNat, none⟩ (.int .i64 (rd l0_0 a2))) w.heap.size (fun k_ => some k_ ≠ (.slice (some ⟨go27, 0, none⟩) t125.length co45 : Value).ownBlock) (.slice Ao44 t128.length co44) t128) := ⟨by (with_reducible repeat (first | apply Kd.R_alloc | apply Kd.R_drewN | apply Kd.R_drew)); exact Kd.R_mono (Kd.R_far (p := ⟨go27, (a1 : Int).toNat, none⟩) (Kd.R_mono HO130.out (fun k_ hk => (⟨hk, fun e_ => hk (by rw [e_]; rfl)⟩ : _ ∧ k_ ≠ go27))) (fun _ hk => hk.2) (.int .i64 (rd l0_0 a2))) (fun _ hk => hk.1)⟩
                            have n2_ : Aside0 ((w49.setCell ⟨go27, (a1 : Int).toNat, none⟩ (.int .i64 (rd l0_0 a2))).heap[gb121]? = some (.cells #[.slice (some ad132) l0_0.length c0_0, .slice A0_1 l0_1.length c0_1] 26 (0, 0))) := ⟨by (with_reducible repeat (first | refine blk_drewN ?_ _ | refine blk_drew ?_ | refine blk_alloc ?_ _)); refine blk_far ?_ (by have h_ := Kd.R_ne HO127.out BK121.out (by decide); intro e_; exact h_ (by rw [e_]; rfl)) _; (with_reducible repeat (first | refine blk_drewN ?_ _ | refine blk_drew ?_ | refine blk_alloc ?_ _)); exact BK121.out⟩
                            have n3_ : Aside0 ((w49.setCell ⟨go27, (a1 : Int).toNat, none⟩ (.int .i64 (rd l0_0 a2))).heap[gb122]? = some (.cells #[.slice none 0 0, .slice none 0 0] 26 (0, 0))) := ⟨by (with_reducible repeat (first | refine blk_drewN ?_ _ | refine blk_drew ?_ | refine blk_alloc ?_ _)); refine blk_far ?_ (by have h_ := Kd.R_ne HO127.out BK122.out (by decide); intro e_; exact h_ (by rw [e_]; rfl)) _; (with_reducible repeat (first | refine blk_drewN ?_ _ | refine blk_drew ?_ | refine blk_alloc ?_ _)); exact BK122.out⟩
                            have n4_ : Aside0 ((w49.setCell ⟨go27, (a1 : Int).toNat, none⟩ (.int .i64 (rd l0_0 a2))).heap[gb131]? = some (.cells #[.slice (some ⟨go27, 0, none⟩) t125.length co45, .slice Ao44 t128.length co44] 26 (0, 0))) := ⟨by (with_reducible repeat (first | refine blk_drewN ?_ _ | refine blk_drew ?_ | refine blk_alloc ?_ _)); refine blk_far ?_ (by have h_ := Kd.R_ne HO127.out BK131.out (by decide); intro e_; exact h_ (by rw [e_]; rfl)) _; (with_reducible repeat (first | refine blk_drewN ?_ _ | refine blk_drew ?_ | refine blk_alloc ?_ _)); exact BK131.out⟩
                            have n5_ : Aside0 (Below w.heap.size w (w49.setCell ⟨go27, (a1 : Int).toNat, none⟩ (.int .i64 (rd l0_0 a2)))) := ⟨xs HB.out⟩
                            (try clear HO127)
                            (try clear HO130)
                            (try clear BK121)
                            (try clear BK122)
                            (try clear BK131)
                            (try clear HB)
                            generalize (w49.setCell ⟨go27, (a1 : Int).toNat, none⟩ (.int .i64 (rd l0_0 a2))) = w51 at n0_ n1_ n2_ n3_ n4_ n5_ ⊢
                            have HO127 := n0_
                            have HO130 := n1_
                            have BK121 := n2_
                            have BK122 := n3_
                            have BK131 := n4_
                            have HB := n5_
                            clear n0_ n1_ n2_ n3_ n4_ n5_
                            try go_wp2
                            have n0_ := Aside0.mk (Kd.R_drew HO127.out)
                            have n1_ := Aside0.mk (Kd.R_drew HO130.out)
                            have n2_ := Aside0.mk (blk_drew BK121.out)
                            have n3_ := Aside0.mk (blk_drew BK122.out)
                            have n4_ := Aside0.mk (blk_drew BK131.out)
                            have n5_ := Aside0.mk (below_drew1 HB.out)
                            clear HO127
                            clear HO130
                            clear BK121
                            clear BK122
                            clear BK131
                            clear HB
                            have HO127 := n0_
                            have HO130 := n1_
                            have BK121 := n2_
                            have BK122 := n3_
                            have BK131 := n4_
                            have HB := n5_
                            clear n0_ n1_ n2_ n3_ n4_ n5_
                            have p134 : 0 ≤ (a1 : Int) := of_decide_eq_true (by first | (with_reducible assumption) | assumption)
                            have q134 : a1 < (l0_0.length : Int) := of_decide_eq_true (by first | (with_reducible assumption) | assumption)
                            obtain ⟨ad134, e134, hx134_0⟩ := Kd.at_int HR0_0.out a1 p134 q134
                            have hw134_0 := hx134_0
                            obtain rfl : ad132 = ad134 := (by injection e134)
                            replace hx134_0 := (HB.out.cell (World.block_lt_of_cell? w _ hx134_0)).trans hx134_0
                            replace p134 := eq_true p134
                            replace q134 := eq_true q134
                            have p30 : 0 ≤ (a2 : Int) := of_decide_eq_true (by first | (with_reducible assumption) | assumption)
                            have q30 : (a2 : Int) < ((t125.length : Int) : Int) := of_decide_eq_true (by first | (with_reducible assumption) | assumption)
                            obtain ⟨hx30_0, hf30_0⟩ := Kd.R_celln 0 HO127.out (a2 : Int) p30 q30
                            replace p30 := eq_true p30
                            replace q30 := eq_true q30
                            have HP53 := Kd.R_putn HO127.out (a2 : Int) (rd l0_0 a1)
                            rw [← Ny135.out] at HP53
                            have HQ53 := Aside0.mk HP53
                            clear HP53
                            refine start_ (n := 10) (S := fun w' => w'.cell? ⟨gb131, 0, none⟩ = some (.slice (some ⟨go27, 0, none⟩) t125.length co45) ∧ w'.cell? ⟨gb131, 1, none⟩ = some (.slice Ao44 t128.length co44) ∧ w'.cell? ⟨gb121, 0, none⟩ = some (.slice (some ad132) l0_0.length c0_0) ∧ w'.cell? ⟨gb121, 1, none⟩ = some (.slice A0_1 l0_1.length c0_1) ∧ w'.cell? (ad132.add (a1).toNat) = some (.int .i64 (rd l0_0 a1))) (ds := [9]) #[false, false, false, false, false, false, false, false, false, false] (by kernel_rfl) rfl rfl ⟨(blk_cell BK131.out 0).trans rfl, (blk_cell BK131.out 1).trans rfl, (blk_cell BK121.out 0).trans rfl, (blk_cell BK121.out 1).trans rfl, ((HB.out.cell (World.block_lt_of_cell? w _ hw134_0)).trans hw134_0)⟩ (fun hHeld => ?_); refine with_tabW spec_SwapVessels.tab5 spec_SwapVessels.bits5 (fun HT_ HW_ => ?_)
                            generalize w51.drew = w52 at HO127 HO130 BK121 BK122 BK131 HB HQ53 hf30_0 hx134_0 hx30_0 hHeld ⊢
                            refine pure_ (i := 0) (N := some 36) (v := ?_) (a' := ?_) #[true, false, false, false, false, false, false, false, false, false] rfl rfl (any_of HT_.out (by kernel_rfl)) (fun _ _ _ h => h) (Or.inl ⟨by rfl, ?_⟩) ?_ ?_
                            rotate_left
                            · intro w'
                              go_simp
                              with_reducible rfl
                            rotate_left
                            · simp only [Act.put, List.setIfInBounds_toArray, List.set_cons_zero, List.set_cons_succ, i64_w, i32_w]
                              rfl
                            refine pure_ (i := 2) (N := some 38) (v := ?_) (a' := ?_) #[true, false, true, false, false, false, false, false, false, false] rfl rfl (any_of HT_.out (by kernel_rfl)) (fun _ _ _ h => h) (Or.inl ⟨by rfl, ?_⟩) ?_ ?_
                            rotate_left
                            · intro w'
                              go_simp
                              with_reducible rfl
                            rotate_left
                            · simp only [Act.put, List.setIfInBounds_toArray, List.set_cons_zero, List.set_cons_succ, i64_w, i32_w]
                              rfl
                            refine pure_ (i := 3) (N := some 39) (v := ?_) (a' := ?_) #[true, false, true, true, false, false, false, false, false, false] rfl rfl (any_of HT_.out (by kernel_rfl)) (fun _ _ _ h => h) (Or.inl ⟨by rfl, ?_⟩) ?_ ?_
                            rotate_left
                            · intro w'
                              go_simp
                              with_reducible rfl
                            rotate_left
                            · simp only [Act.put, List.setIfInBounds_toArray, List.set_cons_zero, List.set_cons_succ, i64_w, i32_w]
                              rfl
                            refine pure_ (i := 5) (N := some 41) (v := ?_) (a' := ?_) #[true, false, true, true, false, true, false, false, false, false] rfl rfl (any_of HT_.out (by kernel_rfl)) (fun _ _ _ h => h) (Or.inl ⟨by rfl, ?_⟩) ?_ ?_
                            rotate_left
                            · intro w'
                              go_simp
                              with_reducible rfl
                            rotate_left
                            · simp only [Act.put, List.setIfInBounds_toArray, List.set_cons_zero, List.set_cons_succ, i64_w, i32_w]
                              rfl
                            refine take_ (i := 1) (N := some 37) (v := ?_) (a' := ?_) #[true, true, true, true, false, true, false, false, false, false] rfl rfl (take_ofW HT_.out HW_.out (by kernel_rfl)) (fun _ _ _ h => h) (Or.inl ⟨by rfl, ?_⟩) hHeld ?_ ?_
                            rotate_left
                            · rintro w' ⟨s0, s1, s2, s3, s4⟩
                              go_simp
                              with_reducible rfl
                            rotate_left
                            · simp only [Act.put, List.setIfInBounds_toArray, List.set_cons_zero, List.set_cons_succ, i64_w, i32_w]
                              rfl
                            refine take_ (i := 4) (N := some 40) (v := ?_) (a' := ?_) #[true, true, true, true, true, true, false, false, false, false] rfl rfl (take_ofW HT_.out HW_.out (by kernel_rfl)) (fun _ _ _ h => h) (Or.inl ⟨by rfl, ?_⟩) hHeld ?_ ?_
                            rotate_left
                            · rintro w' ⟨s0, s1, s2, s3, s4⟩
                              go_simp
                              with_reducible rfl
                            rotate_left
                            · simp only [Act.put, List.setIfInBounds_toArray, List.set_cons_zero, List.set_cons_succ, i64_w, i32_w]
                              rfl
                            refine pure_ (i := 6) (N := some 42) (v := ?_) (a' := ?_) #[true, true, true, true, true, true, true, false, false, false] rfl rfl (any_of HT_.out (by kernel_rfl)) (fun _ _ _ h => h) (Or.inl ⟨by rfl, ?_⟩) ?_ ?_
                            rotate_left
                            · intro w'
                              go_simp
                              with_reducible rfl
                            rotate_left
                            · simp only [Act.put, List.setIfInBounds_toArray, List.set_cons_zero, List.set_cons_succ, i64_w, i32_w]
                              rfl
                            refine take_ (i := 7) (N := some 43) (v := ?_) (a' := ?_) #[true, true, true, true, true, true, true, true, false, false] rfl rfl (take_ofW HT_.out HW_.out (by kernel_rfl)) (fun _ _ _ h => h) (Or.inl ⟨by rfl, ?_⟩) hHeld ?_ ?_
                            rotate_left
                            · rintro w' ⟨s0, s1, s2, s3, s4⟩
                              go_simp
                              with_reducible rfl
                            rotate_left
                            · simp only [Act.put, List.setIfInBounds_toArray, List.set_cons_zero, List.set_cons_succ, i64_w, i32_w]
                              rfl
                            refine pure_ (i := 8) (N := some 44) (v := ?_) (a' := ?_) #[true, true, true, true, true, true, true, true, true, false] rfl rfl (any_of HT_.out (by kernel_rfl)) (fun _ _ _ h => h) (Or.inl ⟨by rfl, ?_⟩) ?_ ?_
                            rotate_left
                            · intro w'
                              go_simp
                              with_reducible rfl
                            rotate_left
                            · simp only [Act.put, List.setIfInBounds_toArray, List.set_cons_zero, List.set_cons_succ, i64_w, i32_w]
                              rfl
                            refine last_ (i := 9) (N := none) #[true, true, true, true, true, true, true, true, true, true] rfl rfl (one_of HT_.out (by kernel_rfl)) (by decide) (fun K hK => ?_)
                            refine skip_ (w1 := ?_) (by rfl) rfl ?_ ?_
                            rotate_left
                            · go_simp
                              rfl
                            refine hK.out _ _ ?_
                            clear hK K
                            refine done_ (done_of HT_.out (by kernel_rfl)) ?_
                            have n0_ : Aside0 (Kd.R (Kd.int .i64) 3 (w52.setCell ⟨go27, (a2 : Int).toNat, none⟩ (.int .i64 (rd l0_0 a1))) w.heap.size (fun k_ => some k_ ≠ (.slice Ao44 t128.length co44 : Value).ownBlock) (.slice (some ⟨go27, 0, none⟩) t125.length co45) y135) := ⟨xr HQ53.out⟩
                            have n1_ : Aside0 (Kd.R (Kd.int .i64) 3 (w52.setCell ⟨go27, (a2 : Int).toNat, none⟩ (.int .i64 (rd l0_0 a1))) w.heap.size (fun k_ => some k_ ≠ (.slice (some ⟨go27, 0, none⟩) t125.length co45 : Value).ownBlock) (.slice Ao44 t128.length co44) t128) := ⟨by (with_reducible repeat (first | apply Kd.R_alloc | apply Kd.R_drewN | apply Kd.R_drew)); exact Kd.R_mono (Kd.R_far (p := ⟨go27, (a2 : Int).toNat, none⟩) (Kd.R_mono HO130.out (fun k_ hk => (⟨hk, fun e_ => hk (by rw [e_]; rfl)⟩ : _ ∧ k_ ≠ go27))) (fun _ hk => hk.2) (.int .i64 (rd l0_0 a1))) (fun _ hk => hk.1)⟩
                            have n2_ : Aside0 ((w52.setCell ⟨go27, (a2 : Int).toNat, none⟩ (.int .i64 (rd l0_0 a1))).heap[gb121]? = some (.cells #[.slice (some ad132) l0_0.length c0_0, .slice A0_1 l0_1.length c0_1] 26 (0, 0))) := ⟨by (with_reducible repeat (first | refine blk_drewN ?_ _ | refine blk_drew ?_ | refine blk_alloc ?_ _)); refine blk_far ?_ (by have h_ := Kd.R_ne HO127.out BK121.out (by decide); intro e_; exact h_ (by rw [e_]; rfl)) _; (with_reducible repeat (first | refine blk_drewN ?_ _ | refine blk_drew ?_ | refine blk_alloc ?_ _)); exact BK121.out⟩
                            have n3_ : Aside0 ((w52.setCell ⟨go27, (a2 : Int).toNat, none⟩ (.int .i64 (rd l0_0 a1))).heap[gb122]? = some (.cells #[.slice none 0 0, .slice none 0 0] 26 (0, 0))) := ⟨by (with_reducible repeat (first | refine blk_drewN ?_ _ | refine blk_drew ?_ | refine blk_alloc ?_ _)); refine blk_far ?_ (by have h_ := Kd.R_ne HO127.out BK122.out (by decide); intro e_; exact h_ (by rw [e_]; rfl)) _; (with_reducible repeat (first | refine blk_drewN ?_ _ | refine blk_drew ?_ | refine blk_alloc ?_ _)); exact BK122.out⟩
                            have n4_ : Aside0 ((w52.setCell ⟨go27, (a2 : Int).toNat, none⟩ (.int .i64 (rd l0_0 a1))).heap[gb131]? = some (.cells #[.slice (some ⟨go27, 0, none⟩) t125.length co45, .slice Ao44 t128.length co44] 26 (0, 0))) := ⟨by (with_reducible repeat (first | refine blk_drewN ?_ _ | refine blk_drew ?_ | refine blk_alloc ?_ _)); refine blk_far ?_ (by have h_ := Kd.R_ne HO127.out BK131.out (by decide); intro e_; exact h_ (by rw [e_]; rfl)) _; (with_reducible repeat (first | refine blk_drewN ?_ _ | refine blk_drew ?_ | refine blk_alloc ?_ _)); exact BK131.out⟩
                            have n5_ : Aside0 (Below w.heap.size w (w52.setCell ⟨go27, (a2 : Int).toNat, none⟩ (.int .i64 (rd l0_0 a1)))) := ⟨xs HB.out⟩
                            (try clear HO127)
                            (try clear HO130)
                            (try clear BK121)
                            (try clear BK122)
                            (try clear BK131)
                            (try clear HB)
                            generalize (w52.setCell ⟨go27, (a2 : Int).toNat, none⟩ (.int .i64 (rd l0_0 a1))) = w54 at n0_ n1_ n2_ n3_ n4_ n5_ ⊢
                            have HO127 := n0_
                            have HO130 := n1_
                            have BK121 := n2_
                            have BK122 := n3_
                            have BK131 := n4_
                            have HB := n5_
                            clear n0_ n1_ n2_ n3_ n4_ n5_
                            try go_wp2
                            have n0_ := Aside0.mk (Kd.R_drew HO127.out)
                            have n1_ := Aside0.mk (Kd.R_drew HO130.out)
                            have n2_ := Aside0.mk (blk_drew BK121.out)
                            have n3_ := Aside0.mk (blk_drew BK122.out)
                            have n4_ := Aside0.mk (blk_drew BK131.out)
                            have n5_ := Aside0.mk (below_drew1 HB.out)
                            clear HO127
                            clear HO130
                            clear BK121
                            clear BK122
                            clear BK131
                            clear HB
                            have HO127 := n0_
                            have HO130 := n1_
                            have BK121 := n2_
                            have BK122 := n3_
                            have BK131 := n4_
                            have HB := n5_
                            clear n0_ n1_ n2_ n3_ n4_ n5_
                            have p136 : 0 ≤ (a2 : Int) := of_decide_eq_true (by first | (with_reducible assumption) | assumption)
                            have q136 : a2 < (l0_1.length : Int) := of_decide_eq_true (by first | (with_reducible assumption) | assumption)
                            obtain ⟨ad136, e136, hx136_0⟩ := Kd.at_int HR0_1.out a2 p136 q136
                            have hw136_0 := hx136_0
                            cases e136
                            replace hx136_0 := (HB.out.cell (World.block_lt_of_cell? w _ hx136_0)).trans hx136_0
                            replace p136 := eq_true p136
                            replace q136 := eq_true q136
                            have p33 : 0 ≤ (a1 : Int) := of_decide_eq_true (by first | (with_reducible assumption) | assumption)
                            have q33 : (a1 : Int) < ((t128.length : Int) : Int) := of_decide_eq_true (by first | (with_reducible assumption) | assumption)
                            obtain ⟨go33, co33, eo33, gb33, gl33, cl33, HG33⟩ := Kd.R_form HO130.out (by omega)
                            (first | cases eo33 | (injection eo33 with ea_ en_ ec_; (first | subst ea_ | (injection ea_ with ea_; subst ea_)); subst ec_; clear en_))
                            have GB33 := Aside0.mk gb33
                            have GG33 := Aside0.mk HG33
                            clear gb33 gl33 HG33
                            obtain ⟨hx33_0, hf33_0⟩ := Kd.R_celln 0 HO130.out (a1 : Int) p33 q33
                            replace p33 := eq_true p33
                            replace q33 := eq_true q33
                            have HP56 := Kd.R_putn HO130.out (a1 : Int) (rd l0_1 a2)
                            rw [← Ny137.out] at HP56
                            have HQ56 := Aside0.mk HP56
                            clear HP56
                            refine start_ (n := 10) (S := fun w' => w'.cell? ⟨gb131, 0, none⟩ = some (.slice (some ⟨go27, 0, none⟩) t125.length co45) ∧ w'.cell? ⟨gb131, 1, none⟩ = some (.slice (some ⟨go33, 0, none⟩) t128.length co44) ∧ w'.cell? ⟨gb121, 0, none⟩ = some (.slice (some ad132) l0_0.length c0_0) ∧ w'.cell? ⟨gb121, 1, none⟩ = some (.slice (some ad136) l0_1.length c0_1) ∧ w'.cell? (ad136.add (a2).toNat) = some (.int .i64 (rd l0_1 a2))) (ds := [9]) #[false, false, false, false, false, false, false, false, false, false] (by kernel_rfl) rfl rfl ⟨(blk_cell BK131.out 0).trans rfl, (blk_cell BK131.out 1).trans rfl, (blk_cell BK121.out 0).trans rfl, (blk_cell BK121.out 1).trans rfl, ((HB.out.cell (World.block_lt_of_cell? w _ hw136_0)).trans hw136_0)⟩ (fun hHeld => ?_); refine with_tabW spec_SwapVessels.tab6 spec_SwapVessels.bits6 (fun HT_ HW_ => ?_)
                            generalize w54.drew = w55 at HO127 HO130 BK121 BK122 BK131 HB GG33 HQ56 hf33_0 hx136_0 hx33_0 hHeld ⊢
                            refine pure_ (i := 0) (N := some 45) (v := ?_) (a' := ?_) #[true, false, false, false, false, false, false, false, false, false] rfl rfl (any_of HT_.out (by kernel_rfl)) (fun _ _ _ h => h) (Or.inl ⟨by rfl, ?_⟩) ?_ ?_
                            rotate_left
                            · intro w'
                              go_simp
                              with_reducible rfl
                            rotate_left
                            · simp only [Act.put, List.setIfInBounds_toArray, List.set_cons_zero, List.set_cons_succ, i64_w, i32_w]
                              rfl
                            refine pure_ (i := 2) (N := some 47) (v := ?_) (a' := ?_) #[true, false, true, false, false, false, false, false, false, false] rfl rfl (any_of HT_.out (by kernel_rfl)) (fun _ _ _ h => h) (Or.inl ⟨by rfl, ?_⟩) ?_ ?_
                            rotate_left
                            · intro w'
                              go_simp
                              with_reducible rfl
                            rotate_left
                            · simp only [Act.put, List.setIfInBounds_toArray, List.set_cons_zero, List.set_cons_succ, i64_w, i32_w]
                              rfl
                            refine pure_ (i := 3) (N := some 48) (v := ?_) (a' := ?_) #[true, false, true, true, false, false, false, false, false, false] rfl rfl (any_of HT_.out (by kernel_rfl)) (fun _ _ _ h => h) (Or.inl ⟨by rfl, ?_⟩) ?_ ?_
                            rotate_left
                            · intro w'
                              go_simp
                              with_reducible rfl
                            rotate_left
                            · simp only [Act.put, List.setIfInBounds_toArray, List.set_cons_zero, List.set_cons_succ, i64_w, i32_w]
                              rfl
                            refine pure_ (i := 5) (N := some 50) (v := ?_) (a' := ?_) #[true, false, true, true, false, true, false, false, false, false] rfl rfl (any_of HT_.out (by kernel_rfl)) (fun _ _ _ h => h) (Or.inl ⟨by rfl, ?_⟩) ?_ ?_
                            rotate_left
                            · intro w'
                              go_simp
                              with_reducible rfl
                            rotate_left
                            · simp only [Act.put, List.setIfInBounds_toArray, List.set_cons_zero, List.set_cons_succ, i64_w, i32_w]
                              rfl
                            refine take_ (i := 1) (N := some 46) (v := ?_) (a' := ?_) #[true, true, true, true, false, true, false, false, false, false] rfl rfl (take_ofW HT_.out HW_.out (by kernel_rfl)) (fun _ _ _ h => h) (Or.inl ⟨by rfl, ?_⟩) hHeld ?_ ?_
                            rotate_left
                            · rintro w' ⟨s0, s1, s2, s3, s4⟩
                              go_simp
                              with_reducible rfl
                            rotate_left
                            · simp only [Act.put, List.setIfInBounds_toArray, List.set_cons_zero, List.set_cons_succ, i64_w, i32_w]
                              rfl
                            refine take_ (i := 4) (N := some 49) (v := ?_) (a' := ?_) #[true, true, true, true, true, true, false, false, false, false] rfl rfl (take_ofW HT_.out HW_.out (by kernel_rfl)) (fun _ _ _ h => h) (Or.inl ⟨by rfl, ?_⟩) hHeld ?_ ?_
                            rotate_left
                            · rintro w' ⟨s0, s1, s2, s3, s4⟩
                              go_simp
                              with_reducible rfl
                            rotate_left
                            · simp only [Act.put, List.setIfInBounds_toArray, List.set_cons_zero, List.set_cons_succ, i64_w, i32_w]
                              rfl
                            refine pure_ (i := 6) (N := some 51) (v := ?_) (a' := ?_) #[true, true, true, true, true, true, true, false, false, false] rfl rfl (any_of HT_.out (by kernel_rfl)) (fun _ _ _ h => h) (Or.inl ⟨by rfl, ?_⟩) ?_ ?_
                            rotate_left
                            · intro w'
                              go_simp
                              with_reducible rfl
                            rotate_left
                            · simp only [Act.put, List.setIfInBounds_toArray, List.set_cons_zero, List.set_cons_succ, i64_w, i32_w]
                              rfl
                            refine take_ (i := 7) (N := some 52) (v := ?_) (a' := ?_) #[true, true, true, true, true, true, true, true, false, false] rfl rfl (take_ofW HT_.out HW_.out (by kernel_rfl)) (fun _ _ _ h => h) (Or.inl ⟨by rfl, ?_⟩) hHeld ?_ ?_
                            rotate_left
                            · rintro w' ⟨s0, s1, s2, s3, s4⟩
                              go_simp
                              with_reducible rfl
                            rotate_left
                            · simp only [Act.put, List.setIfInBounds_toArray, List.set_cons_zero, List.set_cons_succ, i64_w, i32_w]
                              rfl
                            refine pure_ (i := 8) (N := some 53) (v := ?_) (a' := ?_) #[true, true, true, true, true, true, true, true, true, false] rfl rfl (any_of HT_.out (by kernel_rfl)) (fun _ _ _ h => h) (Or.inl ⟨by rfl, ?_⟩) ?_ ?_
                            rotate_left
                            · intro w'
                              go_simp
                              with_reducible rfl
                            rotate_left
                            · simp only [Act.put, List.setIfInBounds_toArray, List.set_cons_zero, List.set_cons_succ, i64_w, i32_w]
                              rfl
                            refine last_ (i := 9) (N := none) #[true, true, true, true, true, true, true, true, true, true] rfl rfl (one_of HT_.out (by kernel_rfl)) (by decide) (fun K hK => ?_)
                            refine skip_ (w1 := ?_) (by rfl) rfl ?_ ?_
                            rotate_left
                            · go_simp
                              rfl
                            refine hK.out _ _ ?_
                            clear hK K
                            refine done_ (done_of HT_.out (by kernel_rfl)) ?_
                            have n0_ : Aside0 (Kd.R (Kd.int .i64) 3 (w55.setCell ⟨go33, (a1 : Int).toNat, none⟩ (.int .i64 (rd l0_1 a2))) w.heap.size (fun k_ => some k_ ≠ (.slice (some ⟨go33, 0, none⟩) t128.length co44 : Value).ownBlock) (.slice (some ⟨go27, 0, none⟩) t125.length co45) y135) := ⟨by (with_reducible repeat (first | apply Kd.R_alloc | apply Kd.R_drewN | apply Kd.R_drew)); exact Kd.R_mono (Kd.R_far (p := ⟨go33, (a1 : Int).toNat, none⟩) (Kd.R_mono HO127.out (fun k_ hk => (⟨hk, fun e_ => hk (by rw [e_]; rfl)⟩ : _ ∧ k_ ≠ go33))) (fun _ hk => hk.2) (.int .i64 (rd l0_1 a2))) (fun _ hk => hk.1)⟩
                            have n1_ : Aside0 (Kd.R (Kd.int .i64) 3 (w55.setCell ⟨go33, (a1 : Int).toNat, none⟩ (.int .i64 (rd l0_1 a2))) w.heap.size (fun k_ => some k_ ≠ (.slice (some ⟨go27, 0, none⟩) t125.length co45 : Value).ownBlock) (.slice (some ⟨go33, 0, none⟩) t128.length co44) y137) := ⟨xr HQ56.out⟩
                            have n2_ : Aside0 ((w55.setCell ⟨go33, (a1 : Int).toNat, none⟩ (.int .i64 (rd l0_1 a2))).heap[gb121]? = some (.cells #[.slice (some ad132) l0_0.length c0_0, .slice (some ad136) l0_1.length c0_1] 26 (0, 0))) := ⟨by (with_reducible repeat (first | refine blk_drewN ?_ _ | refine blk_drew ?_ | refine blk_alloc ?_ _)); refine blk_far ?_ (by have h_ := Kd.R_ne HO130.out BK121.out (by decide); intro e_; exact h_ (by rw [e_]; rfl)) _; (with_reducible repeat (first | refine blk_drewN ?_ _ | refine blk_drew ?_ | refine blk_alloc ?_ _)); exact BK121.out⟩
                            have n3_ : Aside0 ((w55.setCell ⟨go33, (a1 : Int).toNat, none⟩ (.int .i64 (rd l0_1 a2))).heap[gb122]? = some (.cells #[.slice none 0 0, .slice none 0 0] 26 (0, 0))) := ⟨by (with_reducible repeat (first | refine blk_drewN ?_ _ | refine blk_drew ?_ | refine blk_alloc ?_ _)); refine blk_far ?_ (by have h_ := Kd.R_ne HO130.out BK122.out (by decide); intro e_; exact h_ (by rw [e_]; rfl)) _; (with_reducible repeat (first | refine blk_drewN ?_ _ | refine blk_drew ?_ | refine blk_alloc ?_ _)); exact BK122.out⟩
                            have n4_ : Aside0 ((w55.setCell ⟨go33, (a1 : Int).toNat, none⟩ (.int .i64 (rd l0_1 a2))).heap[gb131]? = some (.cells #[.slice (some ⟨go27, 0, none⟩) t125.length co45, .slice (some ⟨go33, 0, none⟩) t128.length co44] 26 (0, 0))) := ⟨by (with_reducible repeat (first | refine blk_drewN ?_ _ | refine blk_drew ?_ | refine blk_alloc ?_ _)); refine blk_far ?_ (by have h_ := Kd.R_ne HO130.out BK131.out (by decide); intro e_; exact h_ (by rw [e_]; rfl)) _; (with_reducible repeat (first | refine blk_drewN ?_ _ | refine blk_drew ?_ | refine blk_alloc ?_ _)); exact BK131.out⟩
                            have n5_ : Aside0 (Below w.heap.size w (w55.setCell ⟨go33, (a1 : Int).toNat, none⟩ (.int .i64 (rd l0_1 a2)))) := ⟨xs HB.out⟩
                            (try clear HO127)
                            (try clear HO130)
                            (try clear BK121)
                            (try clear BK122)
                            (try clear BK131)
                            (try clear HB)
                            generalize (w55.setCell ⟨go33, (a1 : Int).toNat, none⟩ (.int .i64 (rd l0_1 a2))) = w57 at n0_ n1_ n2_ n3_ n4_ n5_ ⊢
                            have HO127 := n0_
                            have HO130 := n1_
                            have BK121 := n2_
                            have BK122 := n3_
                            have BK131 := n4_
                            have HB := n5_
                            clear n0_ n1_ n2_ n3_ n4_ n5_
                            try go_wp2
                            have n0_ := Aside0.mk (Kd.R_drew HO127.out)
                            have n1_ := Aside0.mk (Kd.R_drew HO130.out)
                            have n2_ := Aside0.mk (blk_drew BK121.out)
                            have n3_ := Aside0.mk (blk_drew BK122.out)
                            have n4_ := Aside0.mk (blk_drew BK131.out)
                            have n5_ := Aside0.mk (below_drew1 HB.out)
                            clear HO127
                            clear HO130
                            clear BK121
                            clear BK122
                            clear BK131
                            clear HB
                            have HO127 := n0_
                            have HO130 := n1_
                            have BK121 := n2_
                            have BK122 := n3_
                            have BK131 := n4_
                            have HB := n5_
                            clear n0_ n1_ n2_ n3_ n4_ n5_
                            have p138 : 0 ≤ (a1 : Int) := of_decide_eq_true (by first | (with_reducible assumption) | assumption)
                            have q138 : a1 < (l0_1.length : Int) := of_decide_eq_true (by first | (with_reducible assumption) | assumption)
                            obtain ⟨ad138, e138, hx138_0⟩ := Kd.at_int HR0_1.out a1 p138 q138
                            have hw138_0 := hx138_0
                            obtain rfl : ad136 = ad138 := (by injection e138)
                            replace hx138_0 := (HB.out.cell (World.block_lt_of_cell? w _ hx138_0)).trans hx138_0
                            replace p138 := eq_true p138
                            replace q138 := eq_true q138
                            have p36 : 0 ≤ (a2 : Int) := of_decide_eq_true (by first | (with_reducible assumption) | assumption)
                            have q36 : (a2 : Int) < ((t128.length : Int) : Int) := of_decide_eq_true (by first | (with_reducible assumption) | assumption)
                            obtain ⟨hx36_0, hf36_0⟩ := Kd.R_celln 0 HO130.out (a2 : Int) p36 q36
                            replace p36 := eq_true p36
                            replace q36 := eq_true q36
                            have HP59 := Kd.R_putn HO130.out (a2 : Int) (rd l0_1 a1)
                            rw [← Ny139.out] at HP59
                            have HQ59 := Aside0.mk HP59
                            clear HP59
                            refine start_ (n := 10) (S := fun w' => w'.cell? ⟨gb131, 0, none⟩ = some (.slice (some ⟨go27, 0, none⟩) t125.length co45) ∧ w'.cell? ⟨gb131, 1, none⟩ = some (.slice (some ⟨go33, 0, none⟩) t128.length co44) ∧ w'.cell? ⟨gb121, 0, none⟩ = some (.slice (some ad132) l0_0.length c0_0) ∧ w'.cell? ⟨gb121, 1, none⟩ = some (.slice (some ad136) l0_1.length c0_1) ∧ w'.cell? (ad136.add (a1).toNat) = some (.int .i64 (rd l0_1 a1))) (ds := [9]) #[false, false, false, false, false, false, false, false, false, false] (by kernel_rfl) rfl rfl ⟨(blk_cell BK131.out 0).trans rfl, (blk_cell BK131.out 1).trans rfl, (blk_cell BK121.out 0).trans rfl, (blk_cell BK121.out 1).trans rfl, ((HB.out.cell (World.block_lt_of_cell? w _ hw138_0)).trans hw138_0)⟩ (fun hHeld => ?_); refine with_tabW spec_SwapVessels.tab7 spec_SwapVessels.bits7 (fun HT_ HW_ => ?_)
                            generalize w57.drew = w58 at HO127 HO130 BK121 BK122 BK131 HB HQ59 hf36_0 hx138_0 hx36_0 hHeld ⊢
                            refine pure_ (i := 0) (N := some 54) (v := ?_) (a' := ?_) #[true, false, false, false, false, false, false, false, false, false] rfl rfl (any_of HT_.out (by kernel_rfl)) (fun _ _ _ h => h) (Or.inl ⟨by rfl, ?_⟩) ?_ ?_
                            rotate_left
                            · intro w'
                              go_simp
                              with_reducible rfl
                            rotate_left
                            · simp only [Act.put, List.setIfInBounds_toArray, List.set_cons_zero, List.set_cons_succ, i64_w, i32_w]
                              rfl
                            refine pure_ (i := 2) (N := some 56) (v := ?_) (a' := ?_) #[true, false, true, false, false, false, false, false, false, false] rfl rfl (any_of HT_.out (by kernel_rfl)) (fun _ _ _ h => h) (Or.inl ⟨by rfl, ?_⟩) ?_ ?_
                            rotate_left
                            · intro w'
                              go_simp
                              with_reducible rfl
                            rotate_left
                            · simp only [Act.put, List.setIfInBounds_toArray, List.set_cons_zero, List.set_cons_succ, i64_w, i32_w]
                              rfl
                            refine pure_ (i := 3) (N := some 57) (v := ?_) (a' := ?_) #[true, false, true, true, false, false, false, false, false, false] rfl rfl (any_of HT_.out (by kernel_rfl)) (fun _ _ _ h => h) (Or.inl ⟨by rfl, ?_⟩) ?_ ?_
                            rotate_left
                            · intro w'
                              go_simp
                              with_reducible rfl
                            rotate_left
                            · simp only [Act.put, List.setIfInBounds_toArray, List.set_cons_zero, List.set_cons_succ, i64_w, i32_w]
                              rfl
                            refine pure_ (i := 5) (N := some 59) (v := ?_) (a' := ?_) #[true, false, true, true, false, true, false, false, false, false] rfl rfl (any_of HT_.out (by kernel_rfl)) (fun _ _ _ h => h) (Or.inl ⟨by rfl, ?_⟩) ?_ ?_
                            rotate_left
                            · intro w'
                              go_simp
                              with_reducible rfl
                            rotate_left
                            · simp only [Act.put, List.setIfInBounds_toArray, List.set_cons_zero, List.set_cons_succ, i64_w, i32_w]
                              rfl
                            refine take_ (i := 1) (N := some 55) (v := ?_) (a' := ?_) #[true, true, true, true, false, true, false, false, false, false] rfl rfl (take_ofW HT_.out HW_.out (by kernel_rfl)) (fun _ _ _ h => h) (Or.inl ⟨by rfl, ?_⟩) hHeld ?_ ?_
                            rotate_left
                            · rintro w' ⟨s0, s1, s2, s3, s4⟩
                              go_simp
                              with_reducible rfl
                            rotate_left
                            · simp only [Act.put, List.setIfInBounds_toArray, List.set_cons_zero, List.set_cons_succ, i64_w, i32_w]
                              rfl
                            refine take_ (i := 4) (N := some 58) (v := ?_) (a' := ?_) #[true, true, true, true, true, true, false, false, false, false] rfl rfl (take_ofW HT_.out HW_.out (by kernel_rfl)) (fun _ _ _ h => h) (Or.inl ⟨by rfl, ?_⟩) hHeld ?_ ?_
                            rotate_left
                            · rintro w' ⟨s0, s1, s2, s3, s4⟩
                              go_simp
                              with_reducible rfl
                            rotate_left
                            · simp only [Act.put, List.setIfInBounds_toArray, List.set_cons_zero, List.set_cons_succ, i64_w, i32_w]
                              rfl
                            refine pure_ (i := 6) (N := some 60) (v := ?_) (a' := ?_) #[true, true, true, true, true, true, true, false, false, false] rfl rfl (any_of HT_.out (by kernel_rfl)) (fun _ _ _ h => h) (Or.inl ⟨by rfl, ?_⟩) ?_ ?_
                            rotate_left
                            · intro w'
                              go_simp
                              with_reducible rfl
                            rotate_left
                            · simp only [Act.put, List.setIfInBounds_toArray, List.set_cons_zero, List.set_cons_succ, i64_w, i32_w]
                              rfl
                            refine take_ (i := 7) (N := some 61) (v := ?_) (a' := ?_) #[true, true, true, true, true, true, true, true, false, false] rfl rfl (take_ofW HT_.out HW_.out (by kernel_rfl)) (fun _ _ _ h => h) (Or.inl ⟨by rfl, ?_⟩) hHeld ?_ ?_
                            rotate_left
                            · rintro w' ⟨s0, s1, s2, s3, s4⟩
                              go_simp
                              with_reducible rfl
                            rotate_left
                            · simp only [Act.put, List.setIfInBounds_toArray, List.set_cons_zero, List.set_cons_succ, i64_w, i32_w]
                              rfl
                            refine pure_ (i := 8) (N := some 62) (v := ?_) (a' := ?_) #[true, true, true, true, true, true, true, true, true, false] rfl rfl (any_of HT_.out (by kernel_rfl)) (fun _ _ _ h => h) (Or.inl ⟨by rfl, ?_⟩) ?_ ?_
                            rotate_left
                            · intro w'
                              go_simp
                              with_reducible rfl
                            rotate_left
                            · simp only [Act.put, List.setIfInBounds_toArray, List.set_cons_zero, List.set_cons_succ, i64_w, i32_w]
                              rfl
                            refine last_ (i := 9) (N := none) #[true, true, true, true, true, true, true, true, true, true] rfl rfl (one_of HT_.out (by kernel_rfl)) (by decide) (fun K hK => ?_)
                            refine skip_ (w1 := ?_) (by rfl) rfl ?_ ?_
                            rotate_left
                            · go_simp
                              rfl
                            refine hK.out _ _ ?_
                            clear hK K
                            refine done_ (done_of HT_.out (by kernel_rfl)) ?_
                            have n0_ : Aside0 (Kd.R (Kd.int .i64) 3 (w58.setCell ⟨go33, (a2 : Int).toNat, none⟩ (.int .i64 (rd l0_1 a1))) w.heap.size (fun k_ => some k_ ≠ (.slice (some ⟨go33, 0, none⟩) t128.length co44 : Value).ownBlock) (.slice (some ⟨go27, 0, none⟩) t125.length co45) y135) := ⟨by (with_reducible repeat (first | apply Kd.R_alloc | apply Kd.R_drewN | apply Kd.R_drew)); exact Kd.R_mono (Kd.R_far (p := ⟨go33, (a2 : Int).toNat, none⟩) (Kd.R_mono HO127.out (fun k_ hk => (⟨hk, fun e_ => hk (by rw [e_]; rfl)⟩ : _ ∧ k_ ≠ go33))) (fun _ hk => hk.2) (.int .i64 (rd l0_1 a1))) (fun _ hk => hk.1)⟩
                            have n1_ : Aside0 (Kd.R (Kd.int .i64) 3 (w58.setCell ⟨go33, (a2 : Int).toNat, none⟩ (.int .i64 (rd l0_1 a1))) w.heap.size (fun k_ => some k_ ≠ (.slice (some ⟨go27, 0, none⟩) t125.length co45 : Value).ownBlock) (.slice (some ⟨go33, 0, none⟩) t128.length co44) y139) := ⟨xr HQ59.out⟩
                            have n2_ : Aside0 ((w58.setCell ⟨go33, (a2 : Int).toNat, none⟩ (.int .i64 (rd l0_1 a1))).heap[gb121]? = some (.cells #[.slice (some ad132) l0_0.length c0_0, .slice (some ad136) l0_1.length c0_1] 26 (0, 0))) := ⟨by (with_reducible repeat (first | refine blk_drewN ?_ _ | refine blk_drew ?_ | refine blk_alloc ?_ _)); refine blk_far ?_ (by have h_ := Kd.R_ne HO130.out BK121.out (by decide); intro e_; exact h_ (by rw [e_]; rfl)) _; (with_reducible repeat (first | refine blk_drewN ?_ _ | refine blk_drew ?_ | refine blk_alloc ?_ _)); exact BK121.out⟩
                            have n3_ : Aside0 ((w58.setCell ⟨go33, (a2 : Int).toNat, none⟩ (.int .i64 (rd l0_1 a1))).heap[gb122]? = some (.cells #[.slice none 0 0, .slice none 0 0] 26 (0, 0))) := ⟨by (with_reducible repeat (first | refine blk_drewN ?_ _ | refine blk_drew ?_ | refine blk_alloc ?_ _)); refine blk_far ?_ (by have h_ := Kd.R_ne HO130.out BK122.out (by decide); intro e_; exact h_ (by rw [e_]; rfl)) _; (with_reducible repeat (first | refine blk_drewN ?_ _ | refine blk_drew ?_ | refine blk_alloc ?_ _)); exact BK122.out⟩
                            have n4_ : Aside0 ((w58.setCell ⟨go33, (a2 : Int).toNat, none⟩ (.int .i64 (rd l0_1 a1))).heap[gb131]? = some (.cells #[.slice (some ⟨go27, 0, none⟩) t125.length co45, .slice (some ⟨go33, 0, none⟩) t128.length co44] 26 (0, 0))) := ⟨by (with_reducible repeat (first | refine blk_drewN ?_ _ | refine blk_drew ?_ | refine blk_alloc ?_ _)); refine blk_far ?_ (by have h_ := Kd.R_ne HO130.out BK131.out (by decide); intro e_; exact h_ (by rw [e_]; rfl)) _; (with_reducible repeat (first | refine blk_drewN ?_ _ | refine blk_drew ?_ | refine blk_alloc ?_ _)); exact BK131.out⟩
                            have n5_ : Aside0 (Below w.heap.size w (w58.setCell ⟨go33, (a2 : Int).toNat, none⟩ (.int .i64 (rd l0_1 a1)))) := ⟨xs HB.out⟩
                            (try clear HO127)
                            (try clear HO130)
                            (try clear BK121)
                            (try clear BK122)
                            (try clear BK131)
                            (try clear HB)
                            generalize (w58.setCell ⟨go33, (a2 : Int).toNat, none⟩ (.int .i64 (rd l0_1 a1))) = w60 at n0_ n1_ n2_ n3_ n4_ n5_ ⊢
                            have HO127 := n0_
                            have HO130 := n1_
                            have BK121 := n2_
                            have BK122 := n3_
                            have BK131 := n4_
                            have HB := n5_
                            clear n0_ n1_ n2_ n3_ n4_ n5_
                            have hnb61 := NB131_121.out
                            have hnc61 := NB121_131.out
                            have hnb62 := NB131_122.out
                            have hnc62 := NB122_131.out
                            have hcz63_0 : w60.cell? ⟨gb131, 0, none⟩ = some (.slice (some ⟨go27, 0, none⟩) t125.length co45) := (blk_cell BK131.out 0).trans rfl
                            have hcz63_1 : w60.cell? ⟨gb131, 1, none⟩ = some (.slice (some ⟨go33, 0, none⟩) t128.length co44) := (blk_cell BK131.out 1).trans rfl
                            have hfz63_0 := blk_frozen BK131.out 0
                            have hfz63_1 := blk_frozen BK131.out 1
                            have hnb64 := NB122_121.out
                            have hnc64 := NB121_122.out
                            have hcz65_0 : w60.cell? ⟨gb122, 0, none⟩ = some (.slice none 0 0) := (blk_cell BK122.out 0).trans rfl
                            have hcz65_1 : w60.cell? ⟨gb122, 1, none⟩ = some (.slice none 0 0) := (blk_cell BK122.out 1).trans rfl
                            have hfz65_0 := blk_frozen BK122.out 0
                            have hfz65_1 := blk_frozen BK122.out 1
                            try go_wp2
                            refine bodyPost_ret (results_ct rfl _ _ gb122 26 #[.slice (some ⟨go27, 0, none⟩) t125.length co45, .slice (some ⟨go33, 0, none⟩) t128.length co44] (0, 0) _ rfl (by (with_reducible repeat (first | refine blk_drewN ?_ _ | refine blk_drew ?_ | refine blk_alloc ?_ _)); refine blk_put (cs := #[.slice (some ⟨go27, 0, none⟩) t125.length co45, .slice none 0 0]) ?_ 1 _ rfl; (with_reducible repeat (first | refine blk_drewN ?_ _ | refine blk_drew ?_ | refine blk_alloc ?_ _)); refine blk_put (cs := #[.slice none 0 0, .slice none 0 0]) ?_ 0 _ rfl; (with_reducible repeat (first | refine blk_drewN ?_ _ | refine blk_drew ?_ | refine blk_alloc ?_ _)); exact BK122.out) Try.underlying26 rfl (by kernel_rfl)) rfl ?_
                            exact ⟨_, _, by first | rfl | (simp [errW_none, errW_some] <;> rfl) | (simp [*, errW_none, errW_some] <;> rfl), by (with_reducible repeat (first | apply Kd.R_alloc | apply Kd.R_drewN | apply Kd.R_drew)); exact Kd.R_mono (Kd.R_far (p := ⟨gb122, 1, none⟩) (Kd.R_far (p := ⟨gb122, 0, none⟩) (Kd.R_types HO127.out BK122.out (by decide)) (fun _ hk => hk.2) (.slice (some ⟨go27, 0, none⟩) t125.length co45)) (fun _ hk => hk.2) (.slice (some ⟨go33, 0, none⟩) t128.length co44)) (fun _ hk => hk.1), by (with_reducible repeat (first | apply Kd.R_alloc | apply Kd.R_drewN | apply Kd.R_drew)); exact Kd.R_mono (Kd.R_far (p := ⟨gb122, 1, none⟩) (Kd.R_far (p := ⟨gb122, 0, none⟩) (Kd.R_types HO130.out BK122.out (by decide)) (fun _ hk => hk.2) (.slice (some ⟨go27, 0, none⟩) t125.length co45)) (fun _ hk => hk.2) (.slice (some ⟨go33, 0, none⟩) t128.length co44)) (fun _ hk => hk.1), by repeat (first | (with_reducible first | exact HB.out | apply below_alloc | apply pw_below_drewN | apply below_drew1 | refine below_set ?_ GE121.out | refine below_set ?_ GE122.out | refine below_set ?_ GE131.out) | exact HB.out)⟩
                          · rw [if_neg c35] at H
                            exact absurd H (by simp)
                        · rw [if_neg c34] at H
                          exact absurd H (by simp)
                      · rw [if_neg c32] at H
                        exact absurd H (by simp)
                    · rw [if_neg c31] at H
                      exact absurd H (by simp)
                  · rw [if_neg c29] at H
                    exact absurd H (by simp)
                · rw [if_neg c28] at H
                  exact absurd H (by simp)
              · rw [if_neg c26] at H
                exact absurd H (by simp)
            · rw [if_neg c25] at H
              exact absurd H (by simp)
          · rw [if_neg c24] at H
            exact absurd H (by simp)
        · rw [if_neg c23] at H
          exact absurd H (by simp)

end Go.Proofs.Ytobkbpoamicjgaa.PFnExactSwapVessels

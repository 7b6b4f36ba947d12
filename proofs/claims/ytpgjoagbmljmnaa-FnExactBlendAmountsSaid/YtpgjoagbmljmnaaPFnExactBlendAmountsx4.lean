/- Lean functions of the Go functions that the law FnExactBlendAmounts reaches, and the proofs that the calls come to what they say (made by program). -/
import Derived.Test.YtpgjoagbmljmnaaAb
import Derived.Test.YtpgjoagbmljmnaaPFnExactBlendAmountsx0
import Derived.Test.YtpgjoagbmljmnaaPFnExactBlendAmountsx1
import Derived.Test.YtpgjoagbmljmnaaPFnExactBlendAmountsx2
import Derived.Test.YtpgjoagbmljmnaaPFnExactBlendAmountsx3
namespace Go.Proofs.Ytpgjoagbmljmnaa.PFnExactBlendAmounts
open Go.RowKit Go.Proofs.YtpgjoagbmljmnaaW.PrintWords Go.Proofs.YtpgjoagbmljmnaaW.PrintLast Go.Proofs.YtpgjoagbmljmnaaW.PrintMore Go.Proofs.Ytpgjoagbmljmnaa.Ab
attribute [local go_sem] max2_int min2_int max_two min_two max_three min_three max_four min_four   -- for this text's walks alone
set_option linter.unusedVariables false
set_option linter.unusedSimpArgs false

attribute [local go_sem high] eqA42
/-! ### spec_BlendAmounts: function 44 -/
def spec_BlendAmounts.j0 : Nat → Bool → Int → Int → Int → Int → Int → Int → Option (Int × Int × Bool)
  | 0, _, _, _, _, _, _, _ => none
  | k + 1, x26, x136000, x136001, x137000, x137001, x138000, x138001 => if x26 = true then (some (0, 0, false)) else (if (x136000 == x138000 && (x136001 == x138001)) = true then (some (1, 0, true)) else (if (x137000 == x138000 && (x137001 == x138001)) = true then (some (0, 1, true)) else ((spec_saGap.f x136000 x136001 x138000 x138001).bind fun bt141 => ((spec_saGap.f x138000 x138001 x137000 x137001).bind fun bt145 => (if (wrap64 (bt141.1 * bt145.1)) ≤ 0 then (some (0, 0, false)) else ((spec_saCross.f k bt141.1 bt141.2.1 bt141.2.2.1 bt141.2.2.2 bt145.1 bt145.2.1 bt145.2.2.1 bt145.2.2.2).bind fun bt151 => (if bt151.2.2 = true then (some (bt151.1, bt151.2.1, true)) else (some (0, 0, false)))))))))
def spec_BlendAmounts.f (k : Nat) (a0_0 : Int) (a0_1 : Int) (a1_0 : Int) (a1_1 : Int) (a2_0 : Int) (a2_1 : Int) : Option (Int × Int × Bool) := (spec_saGood.f k a0_0 a0_1).bind fun t138 => (if t138 = true then ((spec_saGood.f k a1_0 a1_1).bind fun t139 => (if t139 = true then ((spec_saGood.f k a2_0 a2_1).bind fun t140 => (spec_BlendAmounts.j0 k (!t140) a0_0 a0_1 a1_0 a1_1 a2_0 a2_1)) else (spec_BlendAmounts.j0 k true a0_0 a0_1 a1_0 a1_1 a2_0 a2_1))) else (spec_BlendAmounts.j0 k true a0_0 a0_1 a1_0 a1_1 a2_0 a2_1))
theorem spec_BlendAmounts.mono_l : ∀ k, (∀ y0 y1 y2 y3 y4 y5 y6, LeO (spec_BlendAmounts.j0 k y0 y1 y2 y3 y4 y5 y6) (spec_BlendAmounts.j0 (k + 1) y0 y1 y2 y3 y4 y5 y6))
  | 0 => fun _ _ _ _ _ _ _ r h => by simp [spec_BlendAmounts.j0] at h
  | k + 1 => by
    have ih0 := spec_BlendAmounts.mono_l k
    · intro y0 y1 y2 y3 y4 y5 y6
      unfold spec_BlendAmounts.j0
      repeat' first
      | (with_reducible exact ih0 _ _ _ _ _ _ _)
      | (with_reducible exact spec_saCross.mono _ _ _ _ _ _ _ _ _)
      | (with_reducible exact spec_saGood.mono _ _ _)
      | (with_reducible exact LeO.refl _)
      | (with_reducible exact LeO.none _)
      | (with_reducible refine LeO.ite ?_ ?_)
      | (with_reducible refine LeO.bind ?_ (fun _ => ?_))
      | exact ih0 _ _ _ _ _ _ _
      | exact spec_saCross.mono _ _ _ _ _ _ _ _ _
      | exact spec_saGood.mono _ _ _
      | exact LeO.none _
      | refine LeO.ite ?_ ?_
      | refine LeO.bind ?_ (fun _ => ?_)
theorem spec_BlendAmounts.mono : ∀ a0 a1 a2 a3 a4 a5 k, LeO (spec_BlendAmounts.f k a0 a1 a2 a3 a4 a5) (spec_BlendAmounts.f (k + 1) a0 a1 a2 a3 a4 a5) := by
  intro a0 a1 a2 a3 a4 a5 k
  have ih0 := spec_BlendAmounts.mono_l k
  unfold spec_BlendAmounts.f
  repeat' first
      | (with_reducible exact ih0 _ _ _ _ _ _ _)
      | (with_reducible exact spec_saCross.mono _ _ _ _ _ _ _ _ _)
      | (with_reducible exact spec_saGood.mono _ _ _)
      | (with_reducible exact LeO.refl _)
      | (with_reducible exact LeO.none _)
      | (with_reducible refine LeO.ite ?_ ?_)
      | (with_reducible refine LeO.bind ?_ (fun _ => ?_))
      | exact ih0 _ _ _ _ _ _ _
      | exact spec_saCross.mono _ _ _ _ _ _ _ _ _
      | exact spec_saGood.mono _ _ _
      | exact LeO.none _
      | refine LeO.ite ?_ ?_
      | refine LeO.bind ?_ (fun _ => ?_)
def spec_BlendAmounts.T7 : Bool × List (List Nat × List Nat) := (true, [([], []), ([], []), ([0, 1], [0, 1]), ([], []), ([], []), ([3, 4, 2], [3, 4]), ([], []), ([], []), ([6, 2, 5, 0, 1, 2, 6, 7], [2, 6]), ([7, 5, 8, 0, 1, 2, 3, 4, 5, 6, 7, 8], [5, 7])])
def spec_BlendAmounts.B7 : List Nat := [0, 0, 3, 0, 0, 31, 0, 0, 255, 511]
theorem spec_BlendAmounts.tab7 : rtab .any (opsOf Try.f44 7) = spec_BlendAmounts.T7 := by kernel_rfl
theorem spec_BlendAmounts.bits7 : waitsOk spec_BlendAmounts.T7.2 spec_BlendAmounts.B7 = true := by kernel_rfl
set_option maxHeartbeats 8000000 in
set_option maxRecDepth 100000 in
theorem spec_BlendAmounts.calls (k : Nat) (a0_0 : Int) (a0_1 : Int) (a1_0 : Int) (a1_1 : Int) (a2_0 : Int) (a2_1 : Int) (r1 : Int) (r2 : Int) (r3 : Bool) (w : World) (h : spec_BlendAmounts.f k a0_0 a0_1 a1_0 a1_1 a2_0 a2_1 = some (r1, r2, r3)) :
    Calls Try.prog 44 #[.agg #[.int .i64 a0_0, .int .i64 a0_1], .agg #[.int .i64 a1_0, .int .i64 a1_1], .agg #[.int .i64 a2_0, .int .i64 a2_1]] w fun e w' => e = .returned (.tuple #[.int .i64 r1, .int .i64 r2, .bool r3]) ∧ Below w.heap.size w w' := by
  have hu42 := Try.underlying42
  have hu85 := Try.underlying85
  have HB := Aside0.mk (Below.refl w.heap.size w)
  have H : ((spec_saGood.f k a0_0 a0_1).bind fun t138 => (if t138 = true then ((spec_saGood.f k a1_0 a1_1).bind fun t139 => (if t139 = true then ((spec_saGood.f k a2_0 a2_1).bind fun t140 => (spec_BlendAmounts.j0 k (!t140) a0_0 a0_1 a1_0 a1_1 a2_0 a2_1)) else (spec_BlendAmounts.j0 k true a0_0 a0_1 a1_0 a1_1 a2_0 a2_1))) else (spec_BlendAmounts.j0 k true a0_0 a0_1 a1_0 a1_1 a2_0 a2_1))) = some (r1, r2, r3) := h
  clear h
  have HC4 := Aside0.mk H
  clear H
  go_enter Try.func44, Try.ntmps44
  go_upto_region 1 with (first | ((with_reducible refine gate_dst (N := 3) rfl ?_); refine box_event ?hg (N := 3) ?hd (cs := #[.int .i64 a0_0, .int .i64 a0_1]) (t := 42) ?hr ?_; (case hd => rfl); (case hg => rfl); (case hr => first | (go_simp; done) | (go_simp; rfl)); intro gb135 hg w5 hbox hb; have n0_ := Aside0.mk (below_step (xs HB.out) hb); have n1_ := Aside0.mk (hbox); have n2_ := Aside0.mk ((by rw [hg]; exact (below_size (xs HB.out)) : w.heap.size ≤ gb135)); have n3_ := Aside0.mk ((by rw [hg]; exact (below_size (xs HB.out)) : w.heap.size ≤ gb135)); clear HB; have HB := n0_; have BK135 := n1_; have GW135 := n2_; have GE135 := n3_; clear n0_ n1_ n2_ n3_; clear hb hbox hg) | ((with_reducible refine gate_dst (N := 4) rfl ?_); refine box_event ?hg (N := 4) ?hd (cs := #[.int .i64 a1_0, .int .i64 a1_1]) (t := 42) ?hr ?_; (case hd => rfl); (case hg => rfl); (case hr => first | (go_simp; done) | (go_simp; rfl)); intro gb136 hg w6 hbox hb; have n0_ := Aside0.mk (blk_below (g := gb135) (o := .cells #[.int .i64 a0_0, .int .i64 a0_1] 42 (0, 0)) (xb BK135.out) hb); have n1_ := Aside0.mk (below_step (xs HB.out) hb); have n2_ := Aside0.mk (hbox); have n3_ := Aside0.mk ((by rw [hg]; exact (below_size (xs HB.out)) : w.heap.size ≤ gb136)); have n4_ := Aside0.mk ((by rw [hg]; exact (below_size (xs HB.out)) : w.heap.size ≤ gb136)); have n5_ := Aside0.mk ((by rw [hg]; exact Nat.ne_of_lt (blk_lt (g := gb135) (o := .cells #[.int .i64 a0_0, .int .i64 a0_1] 42 (0, 0)) (xb BK135.out)) : gb135 ≠ gb136)); have n6_ := Aside0.mk ((by rw [hg]; exact Nat.ne_of_gt (blk_lt (g := gb135) (o := .cells #[.int .i64 a0_0, .int .i64 a0_1] 42 (0, 0)) (xb BK135.out)) : gb136 ≠ gb135)); clear BK135; clear HB; have BK135 := n0_; have HB := n1_; have BK136 := n2_; have GW136 := n3_; have GE136 := n4_; have NB135_136 := n5_; have NB136_135 := n6_; clear n0_ n1_ n2_ n3_ n4_ n5_ n6_; clear hb hbox hg) | ((with_reducible refine gate_dst (N := 5) rfl ?_); refine box_event ?hg (N := 5) ?hd (cs := #[.int .i64 a2_0, .int .i64 a2_1]) (t := 42) ?hr ?_; (case hd => rfl); (case hg => rfl); (case hr => first | (go_simp; done) | (go_simp; rfl)); intro gb137 hg w7 hbox hb; have n0_ := Aside0.mk (blk_below (g := gb135) (o := .cells #[.int .i64 a0_0, .int .i64 a0_1] 42 (0, 0)) (xb BK135.out) hb); have n1_ := Aside0.mk (blk_below (g := gb136) (o := .cells #[.int .i64 a1_0, .int .i64 a1_1] 42 (0, 0)) (xb BK136.out) hb); have n2_ := Aside0.mk (below_step (xs HB.out) hb); have n3_ := Aside0.mk (hbox); have n4_ := Aside0.mk ((by rw [hg]; exact (below_size (xs HB.out)) : w.heap.size ≤ gb137)); have n5_ := Aside0.mk ((by rw [hg]; exact (below_size (xs HB.out)) : w.heap.size ≤ gb137)); have n6_ := Aside0.mk ((by rw [hg]; exact Nat.ne_of_lt (blk_lt (g := gb135) (o := .cells #[.int .i64 a0_0, .int .i64 a0_1] 42 (0, 0)) (xb BK135.out)) : gb135 ≠ gb137)); have n7_ := Aside0.mk ((by rw [hg]; exact Nat.ne_of_gt (blk_lt (g := gb135) (o := .cells #[.int .i64 a0_0, .int .i64 a0_1] 42 (0, 0)) (xb BK135.out)) : gb137 ≠ gb135)); have n8_ := Aside0.mk ((by rw [hg]; exact Nat.ne_of_lt (blk_lt (g := gb136) (o := .cells #[.int .i64 a1_0, .int .i64 a1_1] 42 (0, 0)) (xb BK136.out)) : gb136 ≠ gb137)); have n9_ := Aside0.mk ((by rw [hg]; exact Nat.ne_of_gt (blk_lt (g := gb136) (o := .cells #[.int .i64 a1_0, .int .i64 a1_1] 42 (0, 0)) (xb BK136.out)) : gb137 ≠ gb136)); clear BK135; clear BK136; clear HB; have BK135 := n0_; have BK136 := n1_; have HB := n2_; have BK137 := n3_; have GW137 := n4_; have GE137 := n5_; have NB135_137 := n6_; have NB137_135 := n7_; have NB136_137 := n8_; have NB137_136 := n9_; clear n0_ n1_ n2_ n3_ n4_ n5_ n6_ n7_ n8_ n9_; clear hb hbox hg))
  (try simp only [Act.put, List.setIfInBounds_toArray, List.set_cons_zero, List.set_cons_succ])
  go_cut [26] (fun v26 wc => ∃ (kq : Nat) (x26_3 : Bool), v26 = .bool x26_3 ∧ Aside0 (spec_BlendAmounts.j0 kq x26_3 a0_0 a0_1 a1_0 a1_1 a2_0 a2_1 = some (r1, r2, r3)) ∧ Aside0 (kq ≤ k) ∧ Aside0 (wc.heap[gb135]? = some (.cells #[.int .i64 a0_0, .int .i64 a0_1] 42 (0, 0))) ∧ Aside0 (wc.heap[gb136]? = some (.cells #[.int .i64 a1_0, .int .i64 a1_1] 42 (0, 0))) ∧ Aside0 (wc.heap[gb137]? = some (.cells #[.int .i64 a2_0, .int .i64 a2_1] 42 (0, 0))) ∧ Aside0 (Below w.heap.size w wc))
  case first =>
    have H := HC4.out
    clear HC4
    replace H := Option.bind_eq_some_iff.mp H
    obtain ⟨t138, A80, H⟩ := H
    replace H : (if t138 = true then ((spec_saGood.f k a1_0 a1_1).bind fun t139 => (if t139 = true then ((spec_saGood.f k a2_0 a2_1).bind fun t140 => (spec_BlendAmounts.j0 k (!t140) a0_0 a0_1 a1_0 a1_1 a2_0 a2_1)) else (spec_BlendAmounts.j0 k true a0_0 a0_1 a1_0 a1_1 a2_0 a2_1))) else (spec_BlendAmounts.j0 k true a0_0 a0_1 a1_0 a1_1 a2_0 a2_1)) = some (r1, r2, r3) := H
    have A8 := Aside0.mk A80
    clear A80
    by_cases c9 : t138 = true
    · subst c9
      have H1 : ((spec_saGood.f k a1_0 a1_1).bind fun t139 => (if t139 = true then ((spec_saGood.f k a2_0 a2_1).bind fun t140 => (spec_BlendAmounts.j0 k (!t140) a0_0 a0_1 a1_0 a1_1 a2_0 a2_1)) else (spec_BlendAmounts.j0 k true a0_0 a0_1 a1_0 a1_1 a2_0 a2_1))) = some (r1, r2, r3) := by rw [if_pos rfl] at H; exact H
      clear H
      have H := H1
      clear H1
      replace H := Option.bind_eq_some_iff.mp H
      obtain ⟨t139, A100, H⟩ := H
      replace H : (if t139 = true then ((spec_saGood.f k a2_0 a2_1).bind fun t140 => (spec_BlendAmounts.j0 k (!t140) a0_0 a0_1 a1_0 a1_1 a2_0 a2_1)) else (spec_BlendAmounts.j0 k true a0_0 a0_1 a1_0 a1_1 a2_0 a2_1)) = some (r1, r2, r3) := H
      have A10 := Aside0.mk A100
      clear A100
      by_cases c11 : t139 = true
      · subst c11
        have H1 : ((spec_saGood.f k a2_0 a2_1).bind fun t140 => (spec_BlendAmounts.j0 k (!t140) a0_0 a0_1 a1_0 a1_1 a2_0 a2_1)) = some (r1, r2, r3) := by rw [if_pos rfl] at H; exact H
        clear H
        have H := H1
        clear H1
        replace H := Option.bind_eq_some_iff.mp H
        obtain ⟨t140, A120, H⟩ := H
        replace H : (spec_BlendAmounts.j0 k (!t140) a0_0 a0_1 a1_0 a1_1 a2_0 a2_1) = some (r1, r2, r3) := H
        have A12 := Aside0.mk A120
        clear A120
        have H' := Aside0.mk H
        clear H
        have hnb13 := NB135_136.out
        have hnc13 := NB136_135.out
        have hnb14 := NB135_137.out
        have hnc14 := NB137_135.out
        have hcz15_0 : w7.cell? ⟨gb135, 0, none⟩ = some (.int .i64 a0_0) := (blk_cell BK135.out 0).trans rfl
        have hcz15_1 : w7.cell? ⟨gb135, 1, none⟩ = some (.int .i64 a0_1) := (blk_cell BK135.out 1).trans rfl
        have hfz15_0 := blk_frozen BK135.out 0
        have hfz15_1 := blk_frozen BK135.out 1
        go_wp2_with (first | ((with_reducible refine gate_callee (f := 55) rfl ?_); refine goesL_ (some 15) rfl rfl Try.func55 (by kernel_rfl) rfl #[.agg #[.int .i64 a0_0, .int .i64 a0_1]] rfl (by (try simp only [List.map_toArray, List.map_cons, List.map_nil]); first | done | rfl | (simp only [List.length_drop, List.length_take]; rfl)) ?_; (with_reducible refine (spec_saGood.calls k a0_0 a0_1 true _ A8.out).mono ?_); rintro e w16 ⟨rfl, hb⟩; refine ⟨_, rfl, ?_⟩; have n0_ := Aside0.mk (blk_below (g := gb135) (o := .cells #[.int .i64 a0_0, .int .i64 a0_1] 42 (0, 0)) (xb BK135.out) hb); have n1_ := Aside0.mk (blk_below (g := gb136) (o := .cells #[.int .i64 a1_0, .int .i64 a1_1] 42 (0, 0)) (xb BK136.out) hb); have n2_ := Aside0.mk (blk_below (g := gb137) (o := .cells #[.int .i64 a2_0, .int .i64 a2_1] 42 (0, 0)) (xb BK137.out) hb); have n3_ := Aside0.mk (below_step (xs HB.out) hb); clear BK135; clear BK136; clear BK137; clear HB; have BK135 := n0_; have BK136 := n1_; have BK137 := n2_; have HB := n3_; clear n0_ n1_ n2_ n3_; (try clear hb); (try clear hb2); (try clear hk); (try clear hi); have hnb17 := NB136_137.out; have hnc17 := NB137_136.out; have hcz18_0 : w16.cell? ⟨gb136, 0, none⟩ = some (.int .i64 a1_0) := (blk_cell BK136.out 0).trans rfl; have hcz18_1 : w16.cell? ⟨gb136, 1, none⟩ = some (.int .i64 a1_1) := (blk_cell BK136.out 1).trans rfl; have hfz18_0 := blk_frozen BK136.out 0; have hfz18_1 := blk_frozen BK136.out 1) | (go_at_call 55; (with_reducible refine (spec_saGood.calls k a1_0 a1_1 true _ A10.out).mono ?_); rintro e w19 ⟨rfl, hb⟩; have n0_ := Aside0.mk (blk_below (g := gb135) (o := .cells #[.int .i64 a0_0, .int .i64 a0_1] 42 (0, 0)) (xb BK135.out) hb); have n1_ := Aside0.mk (blk_below (g := gb136) (o := .cells #[.int .i64 a1_0, .int .i64 a1_1] 42 (0, 0)) (xb BK136.out) hb); have n2_ := Aside0.mk (blk_below (g := gb137) (o := .cells #[.int .i64 a2_0, .int .i64 a2_1] 42 (0, 0)) (xb BK137.out) hb); have n3_ := Aside0.mk (below_step (xs HB.out) hb); clear BK135; clear BK136; clear BK137; clear HB; have BK135 := n0_; have BK136 := n1_; have BK137 := n2_; have HB := n3_; clear n0_ n1_ n2_ n3_; (try clear hb); (try clear hb2); (try clear hk); (try clear hi); have hcz20_0 : w19.cell? ⟨gb137, 0, none⟩ = some (.int .i64 a2_0) := (blk_cell BK137.out 0).trans rfl; have hcz20_1 : w19.cell? ⟨gb137, 1, none⟩ = some (.int .i64 a2_1) := (blk_cell BK137.out 1).trans rfl; have hfz20_0 := blk_frozen BK137.out 0; have hfz20_1 := blk_frozen BK137.out 1) | (go_at_call 55; (with_reducible refine (spec_saGood.calls k a2_0 a2_1 t140 _ A12.out).mono ?_); rintro e w21 ⟨rfl, hb⟩; have n0_ := Aside0.mk (blk_below (g := gb135) (o := .cells #[.int .i64 a0_0, .int .i64 a0_1] 42 (0, 0)) (xb BK135.out) hb); have n1_ := Aside0.mk (blk_below (g := gb136) (o := .cells #[.int .i64 a1_0, .int .i64 a1_1] 42 (0, 0)) (xb BK136.out) hb); have n2_ := Aside0.mk (blk_below (g := gb137) (o := .cells #[.int .i64 a2_0, .int .i64 a2_1] 42 (0, 0)) (xb BK137.out) hb); have n3_ := Aside0.mk (below_step (xs HB.out) hb); clear BK135; clear BK136; clear BK137; clear HB; have BK135 := n0_; have BK136 := n1_; have BK137 := n2_; have HB := n3_; clear n0_ n1_ n2_ n3_; (try clear hb); (try clear hb2); (try clear hk); (try clear hi)))
        go_meet
        case rel => exact ⟨_, (!t140), (by first | rfl | (simp; done) | (simp [*]; done)), H', ⟨by first | omega | exact Nat.le_refl _⟩, ⟨xb BK135.out⟩, ⟨xb BK136.out⟩, ⟨xb BK137.out⟩, ⟨xs HB.out⟩⟩
      · replace c11 := Bool.eq_false_iff.mpr c11
        subst c11
        have H1 : (spec_BlendAmounts.j0 k true a0_0 a0_1 a1_0 a1_1 a2_0 a2_1) = some (r1, r2, r3) := by rw [if_neg (show ¬ (false = true) by decide)] at H; exact H
        clear H
        have H := H1
        clear H1
        have H' := Aside0.mk H
        clear H
        have hnb22 := NB135_136.out
        have hnc22 := NB136_135.out
        have hnb23 := NB135_137.out
        have hnc23 := NB137_135.out
        have hcz24_0 : w7.cell? ⟨gb135, 0, none⟩ = some (.int .i64 a0_0) := (blk_cell BK135.out 0).trans rfl
        have hcz24_1 : w7.cell? ⟨gb135, 1, none⟩ = some (.int .i64 a0_1) := (blk_cell BK135.out 1).trans rfl
        have hfz24_0 := blk_frozen BK135.out 0
        have hfz24_1 := blk_frozen BK135.out 1
        go_wp2_with (first | ((with_reducible refine gate_callee (f := 55) rfl ?_); refine goesL_ (some 15) rfl rfl Try.func55 (by kernel_rfl) rfl #[.agg #[.int .i64 a0_0, .int .i64 a0_1]] rfl (by (try simp only [List.map_toArray, List.map_cons, List.map_nil]); first | done | rfl | (simp only [List.length_drop, List.length_take]; rfl)) ?_; (with_reducible refine (spec_saGood.calls k a0_0 a0_1 true _ A8.out).mono ?_); rintro e w25 ⟨rfl, hb⟩; refine ⟨_, rfl, ?_⟩; have n0_ := Aside0.mk (blk_below (g := gb135) (o := .cells #[.int .i64 a0_0, .int .i64 a0_1] 42 (0, 0)) (xb BK135.out) hb); have n1_ := Aside0.mk (blk_below (g := gb136) (o := .cells #[.int .i64 a1_0, .int .i64 a1_1] 42 (0, 0)) (xb BK136.out) hb); have n2_ := Aside0.mk (blk_below (g := gb137) (o := .cells #[.int .i64 a2_0, .int .i64 a2_1] 42 (0, 0)) (xb BK137.out) hb); have n3_ := Aside0.mk (below_step (xs HB.out) hb); clear BK135; clear BK136; clear BK137; clear HB; have BK135 := n0_; have BK136 := n1_; have BK137 := n2_; have HB := n3_; clear n0_ n1_ n2_ n3_; (try clear hb); (try clear hb2); (try clear hk); (try clear hi); have hnb26 := NB136_137.out; have hnc26 := NB137_136.out; have hcz27_0 : w25.cell? ⟨gb136, 0, none⟩ = some (.int .i64 a1_0) := (blk_cell BK136.out 0).trans rfl; have hcz27_1 : w25.cell? ⟨gb136, 1, none⟩ = some (.int .i64 a1_1) := (blk_cell BK136.out 1).trans rfl; have hfz27_0 := blk_frozen BK136.out 0; have hfz27_1 := blk_frozen BK136.out 1) | (go_at_call 55; (with_reducible refine (spec_saGood.calls k a1_0 a1_1 false _ A10.out).mono ?_); rintro e w28 ⟨rfl, hb⟩; have n0_ := Aside0.mk (blk_below (g := gb135) (o := .cells #[.int .i64 a0_0, .int .i64 a0_1] 42 (0, 0)) (xb BK135.out) hb); have n1_ := Aside0.mk (blk_below (g := gb136) (o := .cells #[.int .i64 a1_0, .int .i64 a1_1] 42 (0, 0)) (xb BK136.out) hb); have n2_ := Aside0.mk (blk_below (g := gb137) (o := .cells #[.int .i64 a2_0, .int .i64 a2_1] 42 (0, 0)) (xb BK137.out) hb); have n3_ := Aside0.mk (below_step (xs HB.out) hb); clear BK135; clear BK136; clear BK137; clear HB; have BK135 := n0_; have BK136 := n1_; have BK137 := n2_; have HB := n3_; clear n0_ n1_ n2_ n3_; (try clear hb); (try clear hb2); (try clear hk); (try clear hi)))
        go_meet
        case rel => exact ⟨_, (true), (by first | rfl | (simp; done) | (simp [*]; done)), H', ⟨by first | omega | exact Nat.le_refl _⟩, ⟨xb BK135.out⟩, ⟨xb BK136.out⟩, ⟨xb BK137.out⟩, ⟨xs HB.out⟩⟩
    · replace c9 := Bool.eq_false_iff.mpr c9
      subst c9
      have H1 : (spec_BlendAmounts.j0 k true a0_0 a0_1 a1_0 a1_1 a2_0 a2_1) = some (r1, r2, r3) := by rw [if_neg (show ¬ (false = true) by decide)] at H; exact H
      clear H
      have H := H1
      clear H1
      have H' := Aside0.mk H
      clear H
      have hnb29 := NB135_136.out
      have hnc29 := NB136_135.out
      have hnb30 := NB135_137.out
      have hnc30 := NB137_135.out
      have hcz31_0 : w7.cell? ⟨gb135, 0, none⟩ = some (.int .i64 a0_0) := (blk_cell BK135.out 0).trans rfl
      have hcz31_1 : w7.cell? ⟨gb135, 1, none⟩ = some (.int .i64 a0_1) := (blk_cell BK135.out 1).trans rfl
      have hfz31_0 := blk_frozen BK135.out 0
      have hfz31_1 := blk_frozen BK135.out 1
      go_wp2_with (first | ((with_reducible refine gate_callee (f := 55) rfl ?_); refine goesL_ (some 15) rfl rfl Try.func55 (by kernel_rfl) rfl #[.agg #[.int .i64 a0_0, .int .i64 a0_1]] rfl (by (try simp only [List.map_toArray, List.map_cons, List.map_nil]); first | done | rfl | (simp only [List.length_drop, List.length_take]; rfl)) ?_; (with_reducible refine (spec_saGood.calls k a0_0 a0_1 false _ A8.out).mono ?_); rintro e w32 ⟨rfl, hb⟩; refine ⟨_, rfl, ?_⟩; have n0_ := Aside0.mk (blk_below (g := gb135) (o := .cells #[.int .i64 a0_0, .int .i64 a0_1] 42 (0, 0)) (xb BK135.out) hb); have n1_ := Aside0.mk (blk_below (g := gb136) (o := .cells #[.int .i64 a1_0, .int .i64 a1_1] 42 (0, 0)) (xb BK136.out) hb); have n2_ := Aside0.mk (blk_below (g := gb137) (o := .cells #[.int .i64 a2_0, .int .i64 a2_1] 42 (0, 0)) (xb BK137.out) hb); have n3_ := Aside0.mk (below_step (xs HB.out) hb); clear BK135; clear BK136; clear BK137; clear HB; have BK135 := n0_; have BK136 := n1_; have BK137 := n2_; have HB := n3_; clear n0_ n1_ n2_ n3_; (try clear hb); (try clear hb2); (try clear hk); (try clear hi)))
      go_meet
      case rel => exact ⟨_, (true), (by first | rfl | (simp; done) | (simp [*]; done)), H', ⟨by first | omega | exact Nat.le_refl _⟩, ⟨xb BK135.out⟩, ⟨xb BK136.out⟩, ⟨xb BK137.out⟩, ⟨xs HB.out⟩⟩
  case rest =>
    clear HC4
    try clear c1
    try clear c2
    try clear p2
    try clear c3
    try clear c4
    try clear c5
    try clear c9
    try clear c11
    try clear c13
    try clear c14
    try clear c17
    try clear c22
    try clear c23
    try clear c26
    try clear c29
    try clear c30
    try clear hcz15_0
    try clear hcz15_1
    try clear hcz18_0
    try clear hcz18_1
    try clear hcz20_0
    try clear hcz20_1
    try clear hcz24_0
    try clear hcz24_1
    try clear hcz27_0
    try clear hcz27_1
    try clear hcz31_0
    try clear hcz31_1
    try clear hfz15_0
    try clear hfz15_1
    try clear hfz18_0
    try clear hfz18_1
    try clear hfz20_0
    try clear hfz20_1
    try clear hfz24_0
    try clear hfz24_1
    try clear hfz27_0
    try clear hfz27_1
    try clear hfz31_0
    try clear hfz31_1
    obtain ⟨kq, x26_3, rfl, HA, HJ3, BK135, BK136, BK137, HB⟩ := hcut
    cases kq with
    | zero => exact absurd HA.out (by simp [spec_BlendAmounts.j0])
    | succ kj3 =>
      have H := HA.out
      clear HA
      simp only [spec_BlendAmounts.j0] at H
      by_cases c33 : x26_3 = true
      · subst c33
        have H1 : (some (0, 0, false)) = some (r1, r2, r3) := by rw [if_pos rfl] at H; exact H
        clear H
        have H := H1
        clear H1
        simp only [Option.some.injEq, Prod.mk.injEq] at H
        obtain ⟨rfl, rfl, rfl⟩ := H
        go_wp2
        go_ret3
        exact ⟨by first | rfl | (simp [errW_none, errW_some] <;> rfl) | (simp [*, errW_none, errW_some] <;> rfl), by repeat (first | (with_reducible first | exact HB.out | apply below_alloc | apply pw_below_drewN | apply below_drew1 | refine below_set ?_ GE135.out | refine below_set ?_ GE136.out | refine below_set ?_ GE137.out) | exact HB.out)⟩
      · replace c33 := Bool.eq_false_iff.mpr c33
        subst c33
        have H1 : (if (a0_0 == a2_0 && (a0_1 == a2_1)) = true then (some (1, 0, true)) else (if (a1_0 == a2_0 && (a1_1 == a2_1)) = true then (some (0, 1, true)) else ((spec_saGap.f a0_0 a0_1 a2_0 a2_1).bind fun bt141 => ((spec_saGap.f a2_0 a2_1 a1_0 a1_1).bind fun bt145 => (if (wrap64 (bt141.1 * bt145.1)) ≤ 0 then (some (0, 0, false)) else ((spec_saCross.f kj3 bt141.1 bt141.2.1 bt141.2.2.1 bt141.2.2.2 bt145.1 bt145.2.1 bt145.2.2.1 bt145.2.2.2).bind fun bt151 => (if bt151.2.2 = true then (some (bt151.1, bt151.2.1, true)) else (some (0, 0, false))))))))) = some (r1, r2, r3) := by rw [if_neg (show ¬ (false = true) by decide)] at H; exact H
        clear H
        have H := H1
        clear H1
        have HS34 := Aside0.mk H
        clear H
        have hnb35 := NB135_136.out
        have hnc35 := NB136_135.out
        have hnb36 := NB135_137.out
        have hnc36 := NB137_135.out
        have hcz37_0 : wc.cell? ⟨gb135, 0, none⟩ = some (.int .i64 a0_0) := (blk_cell BK135.out 0).trans rfl
        have hcz37_1 : wc.cell? ⟨gb135, 1, none⟩ = some (.int .i64 a0_1) := (blk_cell BK135.out 1).trans rfl
        have hfz37_0 := blk_frozen BK135.out 0
        have hfz37_1 := blk_frozen BK135.out 1
        have hnb38 := NB137_136.out
        have hnc38 := NB136_137.out
        have hcz39_0 : wc.cell? ⟨gb137, 0, none⟩ = some (.int .i64 a2_0) := (blk_cell BK137.out 0).trans rfl
        have hcz39_1 : wc.cell? ⟨gb137, 1, none⟩ = some (.int .i64 a2_1) := (blk_cell BK137.out 1).trans rfl
        have hfz39_0 := blk_frozen BK137.out 0
        have hfz39_1 := blk_frozen BK137.out 1
        go_upto_if 29 with (fail)
        have H := HS34.out
        clear HS34
        by_cases c40 : (a0_0 == a2_0 && (a0_1 == a2_1)) = true
        · rw [if_pos c40] at H
          have c40b0 : (a0_0 == a2_0 && (a0_1 == a2_1)) = true := c40
          (try (have c40b1 : decide (a0_0 = a2_0 && (a0_1 == a2_1)) = true := by simpa using c40))
          (try (have c40b2 : (a0_0 == a2_0 && (a0_1 == a2_1)) = true := by simpa using c40))
          clear c40
          (first | rw [c40b0] | (simp only [i64_w, i32_w]; rw [c40b0]) | skip)
          simp only [Option.some.injEq, Prod.mk.injEq] at H
          obtain ⟨rfl, rfl, rfl⟩ := H
          go_wp2
          go_ret3
          exact ⟨by first | rfl | (simp [errW_none, errW_some] <;> rfl) | (simp [*, errW_none, errW_some] <;> rfl), by repeat (first | (with_reducible first | exact HB.out | apply below_alloc | apply pw_below_drewN | apply below_drew1 | refine below_set ?_ GE135.out | refine below_set ?_ GE136.out | refine below_set ?_ GE137.out) | exact HB.out)⟩
        · rw [if_neg c40] at H
          have c40b0 : (a0_0 == a2_0 && (a0_1 == a2_1)) = false := by simpa using c40
          (try (have c40b1 : decide (a0_0 = a2_0 && (a0_1 == a2_1)) = false := by simpa using c40))
          (try (have c40b2 : (a0_0 == a2_0 && (a0_1 == a2_1)) = false := by simpa using c40))
          (try (have c40b3 : ¬ (a0_0 = a2_0 && (a0_1 == a2_1)) := by simpa using c40))
          clear c40
          (first | rw [c40b0] | (simp only [i64_w, i32_w]; rw [c40b0]) | skip)
          have HS41 := Aside0.mk H
          clear H
          have hnb42 := NB136_135.out
          have hnc42 := NB135_136.out
          have hnb43 := NB136_137.out
          have hnc43 := NB137_136.out
          have hcz44_0 : wc.cell? ⟨gb136, 0, none⟩ = some (.int .i64 a1_0) := (blk_cell BK136.out 0).trans rfl
          have hcz44_1 : wc.cell? ⟨gb136, 1, none⟩ = some (.int .i64 a1_1) := (blk_cell BK136.out 1).trans rfl
          have hfz44_0 := blk_frozen BK136.out 0
          have hfz44_1 := blk_frozen BK136.out 1
          have hnb45 := NB137_135.out
          have hnc45 := NB135_137.out
          have hcz46_0 : wc.cell? ⟨gb137, 0, none⟩ = some (.int .i64 a2_0) := (blk_cell BK137.out 0).trans rfl
          have hcz46_1 : wc.cell? ⟨gb137, 1, none⟩ = some (.int .i64 a2_1) := (blk_cell BK137.out 1).trans rfl
          have hfz46_0 := blk_frozen BK137.out 0
          have hfz46_1 := blk_frozen BK137.out 1
          go_upto_if 32 with (fail)
          have H := HS41.out
          clear HS41
          by_cases c47 : (a1_0 == a2_0 && (a1_1 == a2_1)) = true
          · rw [if_pos c47] at H
            have c47b0 : (a1_0 == a2_0 && (a1_1 == a2_1)) = true := c47
            (try (have c47b1 : decide (a1_0 = a2_0 && (a1_1 == a2_1)) = true := by simpa using c47))
            (try (have c47b2 : (a1_0 == a2_0 && (a1_1 == a2_1)) = true := by simpa using c47))
            clear c47
            (first | rw [c47b0] | (simp only [i64_w, i32_w]; rw [c47b0]) | skip)
            simp only [Option.some.injEq, Prod.mk.injEq] at H
            obtain ⟨rfl, rfl, rfl⟩ := H
            go_wp2
            go_ret3
            exact ⟨by first | rfl | (simp [errW_none, errW_some] <;> rfl) | (simp [*, errW_none, errW_some] <;> rfl), by repeat (first | (with_reducible first | exact HB.out | apply below_alloc | apply pw_below_drewN | apply below_drew1 | refine below_set ?_ GE135.out | refine below_set ?_ GE136.out | refine below_set ?_ GE137.out) | exact HB.out)⟩
          · rw [if_neg c47] at H
            have c47b0 : (a1_0 == a2_0 && (a1_1 == a2_1)) = false := by simpa using c47
            (try (have c47b1 : decide (a1_0 = a2_0 && (a1_1 == a2_1)) = false := by simpa using c47))
            (try (have c47b2 : (a1_0 == a2_0 && (a1_1 == a2_1)) = false := by simpa using c47))
            (try (have c47b3 : ¬ (a1_0 = a2_0 && (a1_1 == a2_1)) := by simpa using c47))
            clear c47
            (first | rw [c47b0] | (simp only [i64_w, i32_w]; rw [c47b0]) | skip)
            replace H := Option.bind_eq_some_iff.mp H
            obtain ⟨⟨t141, t142, t143, t144⟩, A480, H⟩ := H
            replace H : ((spec_saGap.f a2_0 a2_1 a1_0 a1_1).bind fun bt145 => (if (wrap64 (t141 * bt145.1)) ≤ 0 then (some (0, 0, false)) else ((spec_saCross.f kj3 t141 t142 t143 t144 bt145.1 bt145.2.1 bt145.2.2.1 bt145.2.2.2).bind fun bt151 => (if bt151.2.2 = true then (some (bt151.1, bt151.2.1, true)) else (some (0, 0, false)))))) = some (r1, r2, r3) := H
            have A48 := Aside0.mk A480
            clear A480
            replace H := Option.bind_eq_some_iff.mp H
            obtain ⟨⟨t145, t146, t147, t148⟩, A490, H⟩ := H
            replace H : (if (wrap64 (t141 * t145)) ≤ 0 then (some (0, 0, false)) else ((spec_saCross.f kj3 t141 t142 t143 t144 t145 t146 t147 t148).bind fun bt151 => (if bt151.2.2 = true then (some (bt151.1, bt151.2.1, true)) else (some (0, 0, false))))) = some (r1, r2, r3) := H
            have A49 := Aside0.mk A490
            clear A490
            have HS50 := Aside0.mk H
            clear H
            try go_wp2
            have n0_ := Aside0.mk (blk_drew BK135.out)
            have n1_ := Aside0.mk (blk_drew BK136.out)
            have n2_ := Aside0.mk (blk_drew BK137.out)
            have n3_ := Aside0.mk (below_drew1 HB.out)
            clear BK135
            clear BK136
            clear BK137
            clear HB
            have BK135 := n0_
            have BK136 := n1_
            have BK137 := n2_
            have HB := n3_
            clear n0_ n1_ n2_ n3_
            refine start_ (n := 10) (S := fun w' => w'.cell? ⟨gb135, 0, none⟩ = some (.int .i64 a0_0) ∧ w'.cell? ⟨gb135, 1, none⟩ = some (.int .i64 a0_1) ∧ w'.cell? ⟨gb137, 0, none⟩ = some (.int .i64 a2_0) ∧ w'.cell? ⟨gb137, 1, none⟩ = some (.int .i64 a2_1) ∧ w'.cell? ⟨gb136, 0, none⟩ = some (.int .i64 a1_0) ∧ w'.cell? ⟨gb136, 1, none⟩ = some (.int .i64 a1_1)) (ds := []) #[false, false, false, false, false, false, false, false, false, false] (by kernel_rfl) rfl rfl ⟨(blk_cell BK135.out 0).trans rfl, (blk_cell BK135.out 1).trans rfl, (blk_cell BK137.out 0).trans rfl, (blk_cell BK137.out 1).trans rfl, (blk_cell BK136.out 0).trans rfl, (blk_cell BK136.out 1).trans rfl⟩ (fun hHeld => ?_); refine with_tabW spec_BlendAmounts.tab7 spec_BlendAmounts.bits7 (fun HT_ HW_ => ?_)
            generalize wc.drew = w51 at BK135 BK136 BK137 HB hHeld ⊢
            refine take_ (i := 0) (N := some 33) (v := ?_) (a' := ?_) #[true, false, false, false, false, false, false, false, false, false] rfl rfl (take_ofW HT_.out HW_.out (by kernel_rfl)) (fun _ _ _ h => h) (Or.inl ⟨by rfl, ?_⟩) hHeld ?_ ?_
            rotate_left
            · rintro w' ⟨s0, s1, s2, s3, s4, s5⟩
              go_simp
              with_reducible rfl
            rotate_left
            · simp only [Act.put, List.setIfInBounds_toArray, List.set_cons_zero, List.set_cons_succ, i64_w, i32_w]
              rfl
            refine take_ (i := 1) (N := some 34) (v := ?_) (a' := ?_) #[true, true, false, false, false, false, false, false, false, false] rfl rfl (take_ofW HT_.out HW_.out (by kernel_rfl)) (fun _ _ _ h => h) (Or.inl ⟨by rfl, ?_⟩) hHeld ?_ ?_
            rotate_left
            · rintro w' ⟨s0, s1, s2, s3, s4, s5⟩
              go_simp
              with_reducible rfl
            rotate_left
            · simp only [Act.put, List.setIfInBounds_toArray, List.set_cons_zero, List.set_cons_succ, i64_w, i32_w]
              rfl
            refine take_ (i := 3) (N := some 36) (v := ?_) (a' := ?_) #[true, true, false, true, false, false, false, false, false, false] rfl rfl (take_ofW HT_.out HW_.out (by kernel_rfl)) (fun _ _ _ h => h) (Or.inl ⟨by rfl, ?_⟩) hHeld ?_ ?_
            rotate_left
            · rintro w' ⟨s0, s1, s2, s3, s4, s5⟩
              go_simp
              with_reducible rfl
            rotate_left
            · simp only [Act.put, List.setIfInBounds_toArray, List.set_cons_zero, List.set_cons_succ, i64_w, i32_w]
              rfl
            refine take_ (i := 4) (N := some 37) (v := ?_) (a' := ?_) #[true, true, false, true, true, false, false, false, false, false] rfl rfl (take_ofW HT_.out HW_.out (by kernel_rfl)) (fun _ _ _ h => h) (Or.inl ⟨by rfl, ?_⟩) hHeld ?_ ?_
            rotate_left
            · rintro w' ⟨s0, s1, s2, s3, s4, s5⟩
              go_simp
              with_reducible rfl
            rotate_left
            · simp only [Act.put, List.setIfInBounds_toArray, List.set_cons_zero, List.set_cons_succ, i64_w, i32_w]
              rfl
            refine join_ (σ := Nat × Nat) 2 #[true, true, true, true, true, true, true, true, false, false] (fun s_ => [(35, .agg #[.int .i64 t141, .int .i64 t142, .int .i64 t143, .int .i64 t144]), (38, .agg #[.int .i64 t145, .int .i64 t146, .int .i64 t147, .int .i64 t148]), (9, .pointer (some ⟨s_.1, 0, none⟩)), (10, .pointer (some ⟨s_.2, 0, none⟩))]) (fun s_ w' => (w'.cell? ⟨gb135, 0, none⟩ = some (.int .i64 a0_0) ∧ w'.cell? ⟨gb135, 1, none⟩ = some (.int .i64 a0_1) ∧ w'.cell? ⟨gb137, 0, none⟩ = some (.int .i64 a2_0) ∧ w'.cell? ⟨gb137, 1, none⟩ = some (.int .i64 a2_1) ∧ w'.cell? ⟨gb136, 0, none⟩ = some (.int .i64 a1_0) ∧ w'.cell? ⟨gb136, 1, none⟩ = some (.int .i64 a1_1)) ∧ (w'.heap[gb135]? = some (.cells #[.int .i64 a0_0, .int .i64 a0_1] 42 (0, 0))) ∧ (w'.heap[gb136]? = some (.cells #[.int .i64 a1_0, .int .i64 a1_1] 42 (0, 0))) ∧ (w'.heap[gb137]? = some (.cells #[.int .i64 a2_0, .int .i64 a2_1] 42 (0, 0))) ∧ (w'.heap[s_.1]? = some (.cells #[.int .i64 0, .int .i64 0, .int .i64 0, .int .i64 0] 85 (0, 0))) ∧ (w'.heap[s_.2]? = some (.cells #[.int .i64 0, .int .i64 0, .int .i64 0, .int .i64 0] 85 (0, 0))) ∧ (w.heap.size ≤ s_.1) ∧ (w.heap.size ≤ s_.1) ∧ (gb135 ≠ s_.1) ∧ (s_.1 ≠ gb135) ∧ (gb136 ≠ s_.1) ∧ (s_.1 ≠ gb136) ∧ (gb137 ≠ s_.1) ∧ (s_.1 ≠ gb137) ∧ (s_.2 ≠ s_.1) ∧ (s_.1 ≠ s_.2) ∧ (w.heap.size ≤ s_.2) ∧ (w.heap.size ≤ s_.2) ∧ (gb135 ≠ s_.2) ∧ (s_.2 ≠ gb135) ∧ (gb136 ≠ s_.2) ∧ (s_.2 ≠ gb136) ∧ (gb137 ≠ s_.2) ∧ (s_.2 ≠ gb137) ∧ (Below w.heap.size w w')) ?_ ?_
            rotate_left
            · intro hJ2_5_6_7
              refine join_ (σ := Nat) 3 #[true, true, true, true, true, true, true, false, false, false] (fun s_ => [(35, .agg #[.int .i64 t141, .int .i64 t142, .int .i64 t143, .int .i64 t144]), (38, .agg #[.int .i64 t145, .int .i64 t146, .int .i64 t147, .int .i64 t148]), (9, .pointer (some ⟨s_, 0, none⟩))]) (fun s_ w' => (w'.cell? ⟨gb135, 0, none⟩ = some (.int .i64 a0_0) ∧ w'.cell? ⟨gb135, 1, none⟩ = some (.int .i64 a0_1) ∧ w'.cell? ⟨gb137, 0, none⟩ = some (.int .i64 a2_0) ∧ w'.cell? ⟨gb137, 1, none⟩ = some (.int .i64 a2_1) ∧ w'.cell? ⟨gb136, 0, none⟩ = some (.int .i64 a1_0) ∧ w'.cell? ⟨gb136, 1, none⟩ = some (.int .i64 a1_1)) ∧ (w'.heap[gb135]? = some (.cells #[.int .i64 a0_0, .int .i64 a0_1] 42 (0, 0))) ∧ (w'.heap[gb136]? = some (.cells #[.int .i64 a1_0, .int .i64 a1_1] 42 (0, 0))) ∧ (w'.heap[gb137]? = some (.cells #[.int .i64 a2_0, .int .i64 a2_1] 42 (0, 0))) ∧ (w'.heap[s_]? = some (.cells #[.int .i64 0, .int .i64 0, .int .i64 0, .int .i64 0] 85 (0, 0))) ∧ (w.heap.size ≤ s_) ∧ (w.heap.size ≤ s_) ∧ (gb135 ≠ s_) ∧ (s_ ≠ gb135) ∧ (gb136 ≠ s_) ∧ (s_ ≠ gb136) ∧ (gb137 ≠ s_) ∧ (s_ ≠ gb137) ∧ (Below w.heap.size w w')) ?_ ?_
              rotate_left
              · intro hJ2_5_6
                refine join_ (σ := Nat) 3 #[true, true, true, true, true, true, false, true, false, false] (fun s_ => [(35, .agg #[.int .i64 t141, .int .i64 t142, .int .i64 t143, .int .i64 t144]), (38, .agg #[.int .i64 t145, .int .i64 t146, .int .i64 t147, .int .i64 t148]), (10, .pointer (some ⟨s_, 0, none⟩))]) (fun s_ w' => (w'.cell? ⟨gb135, 0, none⟩ = some (.int .i64 a0_0) ∧ w'.cell? ⟨gb135, 1, none⟩ = some (.int .i64 a0_1) ∧ w'.cell? ⟨gb137, 0, none⟩ = some (.int .i64 a2_0) ∧ w'.cell? ⟨gb137, 1, none⟩ = some (.int .i64 a2_1) ∧ w'.cell? ⟨gb136, 0, none⟩ = some (.int .i64 a1_0) ∧ w'.cell? ⟨gb136, 1, none⟩ = some (.int .i64 a1_1)) ∧ (w'.heap[gb135]? = some (.cells #[.int .i64 a0_0, .int .i64 a0_1] 42 (0, 0))) ∧ (w'.heap[gb136]? = some (.cells #[.int .i64 a1_0, .int .i64 a1_1] 42 (0, 0))) ∧ (w'.heap[gb137]? = some (.cells #[.int .i64 a2_0, .int .i64 a2_1] 42 (0, 0))) ∧ (w'.heap[s_]? = some (.cells #[.int .i64 0, .int .i64 0, .int .i64 0, .int .i64 0] 85 (0, 0))) ∧ (w.heap.size ≤ s_) ∧ (w.heap.size ≤ s_) ∧ (gb135 ≠ s_) ∧ (s_ ≠ gb135) ∧ (gb136 ≠ s_) ∧ (s_ ≠ gb136) ∧ (gb137 ≠ s_) ∧ (s_ ≠ gb137) ∧ (Below w.heap.size w w')) ?_ ?_
                rotate_left
                · intro hJ2_5_7
                  refine join_ (σ := Nat × Nat) 3 #[true, true, true, true, true, false, true, true, false, false] (fun s_ => [(35, .agg #[.int .i64 t141, .int .i64 t142, .int .i64 t143, .int .i64 t144]), (9, .pointer (some ⟨s_.1, 0, none⟩)), (10, .pointer (some ⟨s_.2, 0, none⟩))]) (fun s_ w' => (w'.cell? ⟨gb135, 0, none⟩ = some (.int .i64 a0_0) ∧ w'.cell? ⟨gb135, 1, none⟩ = some (.int .i64 a0_1) ∧ w'.cell? ⟨gb137, 0, none⟩ = some (.int .i64 a2_0) ∧ w'.cell? ⟨gb137, 1, none⟩ = some (.int .i64 a2_1) ∧ w'.cell? ⟨gb136, 0, none⟩ = some (.int .i64 a1_0) ∧ w'.cell? ⟨gb136, 1, none⟩ = some (.int .i64 a1_1)) ∧ (w'.heap[gb135]? = some (.cells #[.int .i64 a0_0, .int .i64 a0_1] 42 (0, 0))) ∧ (w'.heap[gb136]? = some (.cells #[.int .i64 a1_0, .int .i64 a1_1] 42 (0, 0))) ∧ (w'.heap[gb137]? = some (.cells #[.int .i64 a2_0, .int .i64 a2_1] 42 (0, 0))) ∧ (w'.heap[s_.1]? = some (.cells #[.int .i64 0, .int .i64 0, .int .i64 0, .int .i64 0] 85 (0, 0))) ∧ (w'.heap[s_.2]? = some (.cells #[.int .i64 0, .int .i64 0, .int .i64 0, .int .i64 0] 85 (0, 0))) ∧ (w.heap.size ≤ s_.1) ∧ (w.heap.size ≤ s_.1) ∧ (gb135 ≠ s_.1) ∧ (s_.1 ≠ gb135) ∧ (gb136 ≠ s_.1) ∧ (s_.1 ≠ gb136) ∧ (gb137 ≠ s_.1) ∧ (s_.1 ≠ gb137) ∧ (s_.2 ≠ s_.1) ∧ (s_.1 ≠ s_.2) ∧ (w.heap.size ≤ s_.2) ∧ (w.heap.size ≤ s_.2) ∧ (gb135 ≠ s_.2) ∧ (s_.2 ≠ gb135) ∧ (gb136 ≠ s_.2) ∧ (s_.2 ≠ gb136) ∧ (gb137 ≠ s_.2) ∧ (s_.2 ≠ gb137) ∧ (Below w.heap.size w w')) ?_ ?_
                  rotate_left
                  · intro hJ2_6_7
                    refine join_ (σ := Unit) 4 #[true, true, true, true, true, true, false, false, false, false] (fun s_ => [(35, .agg #[.int .i64 t141, .int .i64 t142, .int .i64 t143, .int .i64 t144]), (38, .agg #[.int .i64 t145, .int .i64 t146, .int .i64 t147, .int .i64 t148])]) (fun s_ w' => (w'.cell? ⟨gb135, 0, none⟩ = some (.int .i64 a0_0) ∧ w'.cell? ⟨gb135, 1, none⟩ = some (.int .i64 a0_1) ∧ w'.cell? ⟨gb137, 0, none⟩ = some (.int .i64 a2_0) ∧ w'.cell? ⟨gb137, 1, none⟩ = some (.int .i64 a2_1) ∧ w'.cell? ⟨gb136, 0, none⟩ = some (.int .i64 a1_0) ∧ w'.cell? ⟨gb136, 1, none⟩ = some (.int .i64 a1_1)) ∧ (w'.heap[gb135]? = some (.cells #[.int .i64 a0_0, .int .i64 a0_1] 42 (0, 0))) ∧ (w'.heap[gb136]? = some (.cells #[.int .i64 a1_0, .int .i64 a1_1] 42 (0, 0))) ∧ (w'.heap[gb137]? = some (.cells #[.int .i64 a2_0, .int .i64 a2_1] 42 (0, 0))) ∧ (Below w.heap.size w w')) ?_ ?_
                    rotate_left
                    · intro hJ2_5
                      refine join_ (σ := Nat) 4 #[true, true, true, true, true, false, true, false, false, false] (fun s_ => [(35, .agg #[.int .i64 t141, .int .i64 t142, .int .i64 t143, .int .i64 t144]), (9, .pointer (some ⟨s_, 0, none⟩))]) (fun s_ w' => (w'.cell? ⟨gb135, 0, none⟩ = some (.int .i64 a0_0) ∧ w'.cell? ⟨gb135, 1, none⟩ = some (.int .i64 a0_1) ∧ w'.cell? ⟨gb137, 0, none⟩ = some (.int .i64 a2_0) ∧ w'.cell? ⟨gb137, 1, none⟩ = some (.int .i64 a2_1) ∧ w'.cell? ⟨gb136, 0, none⟩ = some (.int .i64 a1_0) ∧ w'.cell? ⟨gb136, 1, none⟩ = some (.int .i64 a1_1)) ∧ (w'.heap[gb135]? = some (.cells #[.int .i64 a0_0, .int .i64 a0_1] 42 (0, 0))) ∧ (w'.heap[gb136]? = some (.cells #[.int .i64 a1_0, .int .i64 a1_1] 42 (0, 0))) ∧ (w'.heap[gb137]? = some (.cells #[.int .i64 a2_0, .int .i64 a2_1] 42 (0, 0))) ∧ (w'.heap[s_]? = some (.cells #[.int .i64 0, .int .i64 0, .int .i64 0, .int .i64 0] 85 (0, 0))) ∧ (w.heap.size ≤ s_) ∧ (w.heap.size ≤ s_) ∧ (gb135 ≠ s_) ∧ (s_ ≠ gb135) ∧ (gb136 ≠ s_) ∧ (s_ ≠ gb136) ∧ (gb137 ≠ s_) ∧ (s_ ≠ gb137) ∧ (Below w.heap.size w w')) ?_ ?_
                      rotate_left
                      · intro hJ2_6
                        refine join_ (σ := Nat) 4 #[true, true, true, true, true, false, false, true, false, false] (fun s_ => [(35, .agg #[.int .i64 t141, .int .i64 t142, .int .i64 t143, .int .i64 t144]), (10, .pointer (some ⟨s_, 0, none⟩))]) (fun s_ w' => (w'.cell? ⟨gb135, 0, none⟩ = some (.int .i64 a0_0) ∧ w'.cell? ⟨gb135, 1, none⟩ = some (.int .i64 a0_1) ∧ w'.cell? ⟨gb137, 0, none⟩ = some (.int .i64 a2_0) ∧ w'.cell? ⟨gb137, 1, none⟩ = some (.int .i64 a2_1) ∧ w'.cell? ⟨gb136, 0, none⟩ = some (.int .i64 a1_0) ∧ w'.cell? ⟨gb136, 1, none⟩ = some (.int .i64 a1_1)) ∧ (w'.heap[gb135]? = some (.cells #[.int .i64 a0_0, .int .i64 a0_1] 42 (0, 0))) ∧ (w'.heap[gb136]? = some (.cells #[.int .i64 a1_0, .int .i64 a1_1] 42 (0, 0))) ∧ (w'.heap[gb137]? = some (.cells #[.int .i64 a2_0, .int .i64 a2_1] 42 (0, 0))) ∧ (w'.heap[s_]? = some (.cells #[.int .i64 0, .int .i64 0, .int .i64 0, .int .i64 0] 85 (0, 0))) ∧ (w.heap.size ≤ s_) ∧ (w.heap.size ≤ s_) ∧ (gb135 ≠ s_) ∧ (s_ ≠ gb135) ∧ (gb136 ≠ s_) ∧ (s_ ≠ gb136) ∧ (gb137 ≠ s_) ∧ (s_ ≠ gb137) ∧ (Below w.heap.size w w')) ?_ ?_
                        rotate_left
                        · intro hJ2_7
                          refine join_ (σ := Nat × Nat) 4 #[true, true, false, true, true, false, true, true, false, false] (fun s_ => [(9, .pointer (some ⟨s_.1, 0, none⟩)), (10, .pointer (some ⟨s_.2, 0, none⟩))]) (fun s_ w' => (w'.cell? ⟨gb135, 0, none⟩ = some (.int .i64 a0_0) ∧ w'.cell? ⟨gb135, 1, none⟩ = some (.int .i64 a0_1) ∧ w'.cell? ⟨gb137, 0, none⟩ = some (.int .i64 a2_0) ∧ w'.cell? ⟨gb137, 1, none⟩ = some (.int .i64 a2_1) ∧ w'.cell? ⟨gb136, 0, none⟩ = some (.int .i64 a1_0) ∧ w'.cell? ⟨gb136, 1, none⟩ = some (.int .i64 a1_1)) ∧ (w'.heap[gb135]? = some (.cells #[.int .i64 a0_0, .int .i64 a0_1] 42 (0, 0))) ∧ (w'.heap[gb136]? = some (.cells #[.int .i64 a1_0, .int .i64 a1_1] 42 (0, 0))) ∧ (w'.heap[gb137]? = some (.cells #[.int .i64 a2_0, .int .i64 a2_1] 42 (0, 0))) ∧ (w'.heap[s_.1]? = some (.cells #[.int .i64 0, .int .i64 0, .int .i64 0, .int .i64 0] 85 (0, 0))) ∧ (w'.heap[s_.2]? = some (.cells #[.int .i64 0, .int .i64 0, .int .i64 0, .int .i64 0] 85 (0, 0))) ∧ (w.heap.size ≤ s_.1) ∧ (w.heap.size ≤ s_.1) ∧ (gb135 ≠ s_.1) ∧ (s_.1 ≠ gb135) ∧ (gb136 ≠ s_.1) ∧ (s_.1 ≠ gb136) ∧ (gb137 ≠ s_.1) ∧ (s_.1 ≠ gb137) ∧ (s_.2 ≠ s_.1) ∧ (s_.1 ≠ s_.2) ∧ (w.heap.size ≤ s_.2) ∧ (w.heap.size ≤ s_.2) ∧ (gb135 ≠ s_.2) ∧ (s_.2 ≠ gb135) ∧ (gb136 ≠ s_.2) ∧ (s_.2 ≠ gb136) ∧ (gb137 ≠ s_.2) ∧ (s_.2 ≠ gb137) ∧ (Below w.heap.size w w')) ?_ ?_
                          rotate_left
                          · intro hJ6_7
                            refine join_ (σ := Unit) 5 #[true, true, true, true, true, false, false, false, false, false] (fun s_ => [(35, .agg #[.int .i64 t141, .int .i64 t142, .int .i64 t143, .int .i64 t144])]) (fun s_ w' => (w'.cell? ⟨gb135, 0, none⟩ = some (.int .i64 a0_0) ∧ w'.cell? ⟨gb135, 1, none⟩ = some (.int .i64 a0_1) ∧ w'.cell? ⟨gb137, 0, none⟩ = some (.int .i64 a2_0) ∧ w'.cell? ⟨gb137, 1, none⟩ = some (.int .i64 a2_1) ∧ w'.cell? ⟨gb136, 0, none⟩ = some (.int .i64 a1_0) ∧ w'.cell? ⟨gb136, 1, none⟩ = some (.int .i64 a1_1)) ∧ (w'.heap[gb135]? = some (.cells #[.int .i64 a0_0, .int .i64 a0_1] 42 (0, 0))) ∧ (w'.heap[gb136]? = some (.cells #[.int .i64 a1_0, .int .i64 a1_1] 42 (0, 0))) ∧ (w'.heap[gb137]? = some (.cells #[.int .i64 a2_0, .int .i64 a2_1] 42 (0, 0))) ∧ (Below w.heap.size w w')) ?_ ?_
                            rotate_left
                            · intro hJ2
                              refine join_ (σ := Nat) 5 #[true, true, false, true, true, false, true, false, false, false] (fun s_ => [(9, .pointer (some ⟨s_, 0, none⟩))]) (fun s_ w' => (w'.cell? ⟨gb135, 0, none⟩ = some (.int .i64 a0_0) ∧ w'.cell? ⟨gb135, 1, none⟩ = some (.int .i64 a0_1) ∧ w'.cell? ⟨gb137, 0, none⟩ = some (.int .i64 a2_0) ∧ w'.cell? ⟨gb137, 1, none⟩ = some (.int .i64 a2_1) ∧ w'.cell? ⟨gb136, 0, none⟩ = some (.int .i64 a1_0) ∧ w'.cell? ⟨gb136, 1, none⟩ = some (.int .i64 a1_1)) ∧ (w'.heap[gb135]? = some (.cells #[.int .i64 a0_0, .int .i64 a0_1] 42 (0, 0))) ∧ (w'.heap[gb136]? = some (.cells #[.int .i64 a1_0, .int .i64 a1_1] 42 (0, 0))) ∧ (w'.heap[gb137]? = some (.cells #[.int .i64 a2_0, .int .i64 a2_1] 42 (0, 0))) ∧ (w'.heap[s_]? = some (.cells #[.int .i64 0, .int .i64 0, .int .i64 0, .int .i64 0] 85 (0, 0))) ∧ (w.heap.size ≤ s_) ∧ (w.heap.size ≤ s_) ∧ (gb135 ≠ s_) ∧ (s_ ≠ gb135) ∧ (gb136 ≠ s_) ∧ (s_ ≠ gb136) ∧ (gb137 ≠ s_) ∧ (s_ ≠ gb137) ∧ (Below w.heap.size w w')) ?_ ?_
                              rotate_left
                              · intro hJ6
                                refine join_ (σ := Nat) 5 #[true, true, false, true, true, false, false, true, false, false] (fun s_ => [(10, .pointer (some ⟨s_, 0, none⟩))]) (fun s_ w' => (w'.cell? ⟨gb135, 0, none⟩ = some (.int .i64 a0_0) ∧ w'.cell? ⟨gb135, 1, none⟩ = some (.int .i64 a0_1) ∧ w'.cell? ⟨gb137, 0, none⟩ = some (.int .i64 a2_0) ∧ w'.cell? ⟨gb137, 1, none⟩ = some (.int .i64 a2_1) ∧ w'.cell? ⟨gb136, 0, none⟩ = some (.int .i64 a1_0) ∧ w'.cell? ⟨gb136, 1, none⟩ = some (.int .i64 a1_1)) ∧ (w'.heap[gb135]? = some (.cells #[.int .i64 a0_0, .int .i64 a0_1] 42 (0, 0))) ∧ (w'.heap[gb136]? = some (.cells #[.int .i64 a1_0, .int .i64 a1_1] 42 (0, 0))) ∧ (w'.heap[gb137]? = some (.cells #[.int .i64 a2_0, .int .i64 a2_1] 42 (0, 0))) ∧ (w'.heap[s_]? = some (.cells #[.int .i64 0, .int .i64 0, .int .i64 0, .int .i64 0] 85 (0, 0))) ∧ (w.heap.size ≤ s_) ∧ (w.heap.size ≤ s_) ∧ (gb135 ≠ s_) ∧ (s_ ≠ gb135) ∧ (gb136 ≠ s_) ∧ (s_ ≠ gb136) ∧ (gb137 ≠ s_) ∧ (s_ ≠ gb137) ∧ (Below w.heap.size w w')) ?_ ?_
                                rotate_left
                                · intro hJ7
                                  refine three_ (i := 2) (j := 6) (k := 7) (Ni := some 35) (Nj := some 9) (Nk := some 10) #[true, true, true, true, true, false, false, false, false, false] #[true, true, false, true, true, false, true, false, false, false] #[true, true, false, true, true, false, false, true, false, false] rfl rfl rfl rfl rfl rfl (three_of HT_.out (by kernel_rfl)) (by decide) (by decide) (by decide) (fun K hK => ?_) (fun K hK => ?_) (fun K hK => ?_)
                                  · skip
                                    refine goes_ Try.func73 (by kernel_rfl) rfl #[.agg #[.int .i64 a0_0, .int .i64 a0_1], .agg #[.int .i64 a2_0, .int .i64 a2_1]] (by rfl) rfl rfl (by (try simp only [List.map_toArray, List.map_cons, List.map_nil]); first | done | rfl | (simp only [List.length_drop, List.length_take]; rfl)) ?_
                                    with_reducible refine (spec_saGap.calls a0_0 a0_1 a2_0 a2_1 t141 t142 t143 t144 _ A48.out).mono ?_
                                    rintro e w52 ⟨rfl, hb⟩
                                    refine ⟨_, rfl, ?_⟩
                                    have n0_ := Aside0.mk (blk_below (g := gb135) (o := .cells #[.int .i64 a0_0, .int .i64 a0_1] 42 (0, 0)) (xb BK135.out) hb)
                                    have n1_ := Aside0.mk (blk_below (g := gb136) (o := .cells #[.int .i64 a1_0, .int .i64 a1_1] 42 (0, 0)) (xb BK136.out) hb)
                                    have n2_ := Aside0.mk (blk_below (g := gb137) (o := .cells #[.int .i64 a2_0, .int .i64 a2_1] 42 (0, 0)) (xb BK137.out) hb)
                                    have n3_ := Aside0.mk (below_step (xs HB.out) hb)
                                    clear BK135
                                    clear BK136
                                    clear BK137
                                    clear HB
                                    have BK135 := n0_
                                    have BK136 := n1_
                                    have BK137 := n2_
                                    have HB := n3_
                                    clear n0_ n1_ n2_ n3_
                                    (try clear hb)
                                    (try clear hb2)
                                    (try clear hk)
                                    (try clear hi)
                                    refine hK.out _ _ ⟨(blk_cell BK135.out 0).trans rfl, (blk_cell BK135.out 1).trans rfl, (blk_cell BK137.out 0).trans rfl, (blk_cell BK137.out 1).trans rfl, (blk_cell BK136.out 0).trans rfl, (blk_cell BK136.out 1).trans rfl⟩ (fun hHeld => ?_)
                                    clear hK K
                                    refine norm_ (a' := ?_) ?_ ?_
                                    rotate_left
                                    · show Act.put _ (some 35) _ = _
                                      simp only [Act.put, List.setIfInBounds_toArray, List.set_cons_zero, List.set_cons_succ, i64_w, i32_w]
                                      rfl
                                    exact norm_ (by first | (simp only [putAll, Act.put, List.setIfInBounds_toArray, List.set_cons_zero, List.set_cons_succ]; done) | (simp only [putAll, Act.put, List.setIfInBounds_toArray, List.set_cons_zero, List.set_cons_succ]; rfl)) (hJ2 () _ ⟨hHeld, (xb BK135.out), (xb BK136.out), (xb BK137.out), (xs HB.out)⟩)
                                  · skip
                                    refine box_step ?hg (N := 9) ?hd (cs := #[.int .i64 0, .int .i64 0, .int .i64 0, .int .i64 0]) (t := 85) ?hr ?_; (case hd => rfl); (case hg => rfl); (case hr => first | (go_simp; done) | (go_simp; rfl))
                                    intro gb149 hg w52 hbox hb
                                    have n0_ := Aside0.mk (blk_below (g := gb135) (o := .cells #[.int .i64 a0_0, .int .i64 a0_1] 42 (0, 0)) (xb BK135.out) hb)
                                    have n1_ := Aside0.mk (blk_below (g := gb136) (o := .cells #[.int .i64 a1_0, .int .i64 a1_1] 42 (0, 0)) (xb BK136.out) hb)
                                    have n2_ := Aside0.mk (blk_below (g := gb137) (o := .cells #[.int .i64 a2_0, .int .i64 a2_1] 42 (0, 0)) (xb BK137.out) hb)
                                    have n3_ := Aside0.mk (below_step (xs HB.out) hb)
                                    have n4_ := Aside0.mk (hbox)
                                    have n5_ := Aside0.mk ((by rw [hg]; exact (below_size (xs HB.out)) : w.heap.size ≤ gb149))
                                    have n6_ := Aside0.mk ((by rw [hg]; exact (below_size (xs HB.out)) : w.heap.size ≤ gb149))
                                    have n7_ := Aside0.mk ((by rw [hg]; exact Nat.ne_of_lt (blk_lt (g := gb135) (o := .cells #[.int .i64 a0_0, .int .i64 a0_1] 42 (0, 0)) (xb BK135.out)) : gb135 ≠ gb149))
                                    have n8_ := Aside0.mk ((by rw [hg]; exact Nat.ne_of_gt (blk_lt (g := gb135) (o := .cells #[.int .i64 a0_0, .int .i64 a0_1] 42 (0, 0)) (xb BK135.out)) : gb149 ≠ gb135))
                                    have n9_ := Aside0.mk ((by rw [hg]; exact Nat.ne_of_lt (blk_lt (g := gb136) (o := .cells #[.int .i64 a1_0, .int .i64 a1_1] 42 (0, 0)) (xb BK136.out)) : gb136 ≠ gb149))
                                    have n10_ := Aside0.mk ((by rw [hg]; exact Nat.ne_of_gt (blk_lt (g := gb136) (o := .cells #[.int .i64 a1_0, .int .i64 a1_1] 42 (0, 0)) (xb BK136.out)) : gb149 ≠ gb136))
                                    have n11_ := Aside0.mk ((by rw [hg]; exact Nat.ne_of_lt (blk_lt (g := gb137) (o := .cells #[.int .i64 a2_0, .int .i64 a2_1] 42 (0, 0)) (xb BK137.out)) : gb137 ≠ gb149))
                                    have n12_ := Aside0.mk ((by rw [hg]; exact Nat.ne_of_gt (blk_lt (g := gb137) (o := .cells #[.int .i64 a2_0, .int .i64 a2_1] 42 (0, 0)) (xb BK137.out)) : gb149 ≠ gb137))
                                    clear BK135
                                    clear BK136
                                    clear BK137
                                    clear HB
                                    have BK135 := n0_
                                    have BK136 := n1_
                                    have BK137 := n2_
                                    have HB := n3_
                                    have BK149 := n4_
                                    have GW149 := n5_
                                    have GE149 := n6_
                                    have NB135_149 := n7_
                                    have NB149_135 := n8_
                                    have NB136_149 := n9_
                                    have NB149_136 := n10_
                                    have NB137_149 := n11_
                                    have NB149_137 := n12_
                                    clear n0_ n1_ n2_ n3_ n4_ n5_ n6_ n7_ n8_ n9_ n10_ n11_ n12_
                                    clear hb hbox hg
                                    refine hK.out _ _ ⟨(blk_cell BK135.out 0).trans rfl, (blk_cell BK135.out 1).trans rfl, (blk_cell BK137.out 0).trans rfl, (blk_cell BK137.out 1).trans rfl, (blk_cell BK136.out 0).trans rfl, (blk_cell BK136.out 1).trans rfl⟩ (fun hHeld => ?_)
                                    clear hK K
                                    refine norm_ (a' := ?_) ?_ ?_
                                    rotate_left
                                    · show Act.put _ (some 9) _ = _
                                      simp only [Act.put, List.setIfInBounds_toArray, List.set_cons_zero, List.set_cons_succ, i64_w, i32_w]
                                      rfl
                                    exact norm_ (by first | (simp only [putAll, Act.put, List.setIfInBounds_toArray, List.set_cons_zero, List.set_cons_succ]; done) | (simp only [putAll, Act.put, List.setIfInBounds_toArray, List.set_cons_zero, List.set_cons_succ]; rfl)) (hJ6 (gb149) _ ⟨hHeld, (xb BK135.out), (xb BK136.out), (xb BK137.out), (xb BK149.out), GW149.out, GE149.out, NB135_149.out, NB149_135.out, NB136_149.out, NB149_136.out, NB137_149.out, NB149_137.out, (xs HB.out)⟩)
                                  · skip
                                    refine box_step ?hg (N := 10) ?hd (cs := #[.int .i64 0, .int .i64 0, .int .i64 0, .int .i64 0]) (t := 85) ?hr ?_; (case hd => rfl); (case hg => rfl); (case hr => first | (go_simp; done) | (go_simp; rfl))
                                    intro gb150 hg w52 hbox hb
                                    have n0_ := Aside0.mk (blk_below (g := gb135) (o := .cells #[.int .i64 a0_0, .int .i64 a0_1] 42 (0, 0)) (xb BK135.out) hb)
                                    have n1_ := Aside0.mk (blk_below (g := gb136) (o := .cells #[.int .i64 a1_0, .int .i64 a1_1] 42 (0, 0)) (xb BK136.out) hb)
                                    have n2_ := Aside0.mk (blk_below (g := gb137) (o := .cells #[.int .i64 a2_0, .int .i64 a2_1] 42 (0, 0)) (xb BK137.out) hb)
                                    have n3_ := Aside0.mk (below_step (xs HB.out) hb)
                                    have n4_ := Aside0.mk (hbox)
                                    have n5_ := Aside0.mk ((by rw [hg]; exact (below_size (xs HB.out)) : w.heap.size ≤ gb150))
                                    have n6_ := Aside0.mk ((by rw [hg]; exact (below_size (xs HB.out)) : w.heap.size ≤ gb150))
                                    have n7_ := Aside0.mk ((by rw [hg]; exact Nat.ne_of_lt (blk_lt (g := gb135) (o := .cells #[.int .i64 a0_0, .int .i64 a0_1] 42 (0, 0)) (xb BK135.out)) : gb135 ≠ gb150))
                                    have n8_ := Aside0.mk ((by rw [hg]; exact Nat.ne_of_gt (blk_lt (g := gb135) (o := .cells #[.int .i64 a0_0, .int .i64 a0_1] 42 (0, 0)) (xb BK135.out)) : gb150 ≠ gb135))
                                    have n9_ := Aside0.mk ((by rw [hg]; exact Nat.ne_of_lt (blk_lt (g := gb136) (o := .cells #[.int .i64 a1_0, .int .i64 a1_1] 42 (0, 0)) (xb BK136.out)) : gb136 ≠ gb150))
                                    have n10_ := Aside0.mk ((by rw [hg]; exact Nat.ne_of_gt (blk_lt (g := gb136) (o := .cells #[.int .i64 a1_0, .int .i64 a1_1] 42 (0, 0)) (xb BK136.out)) : gb150 ≠ gb136))
                                    have n11_ := Aside0.mk ((by rw [hg]; exact Nat.ne_of_lt (blk_lt (g := gb137) (o := .cells #[.int .i64 a2_0, .int .i64 a2_1] 42 (0, 0)) (xb BK137.out)) : gb137 ≠ gb150))
                                    have n12_ := Aside0.mk ((by rw [hg]; exact Nat.ne_of_gt (blk_lt (g := gb137) (o := .cells #[.int .i64 a2_0, .int .i64 a2_1] 42 (0, 0)) (xb BK137.out)) : gb150 ≠ gb137))
                                    clear BK135
                                    clear BK136
                                    clear BK137
                                    clear HB
                                    have BK135 := n0_
                                    have BK136 := n1_
                                    have BK137 := n2_
                                    have HB := n3_
                                    have BK150 := n4_
                                    have GW150 := n5_
                                    have GE150 := n6_
                                    have NB135_150 := n7_
                                    have NB150_135 := n8_
                                    have NB136_150 := n9_
                                    have NB150_136 := n10_
                                    have NB137_150 := n11_
                                    have NB150_137 := n12_
                                    clear n0_ n1_ n2_ n3_ n4_ n5_ n6_ n7_ n8_ n9_ n10_ n11_ n12_
                                    clear hb hbox hg
                                    refine hK.out _ _ ⟨(blk_cell BK135.out 0).trans rfl, (blk_cell BK135.out 1).trans rfl, (blk_cell BK137.out 0).trans rfl, (blk_cell BK137.out 1).trans rfl, (blk_cell BK136.out 0).trans rfl, (blk_cell BK136.out 1).trans rfl⟩ (fun hHeld => ?_)
                                    clear hK K
                                    refine norm_ (a' := ?_) ?_ ?_
                                    rotate_left
                                    · show Act.put _ (some 10) _ = _
                                      simp only [Act.put, List.setIfInBounds_toArray, List.set_cons_zero, List.set_cons_succ, i64_w, i32_w]
                                      rfl
                                    exact norm_ (by first | (simp only [putAll, Act.put, List.setIfInBounds_toArray, List.set_cons_zero, List.set_cons_succ]; done) | (simp only [putAll, Act.put, List.setIfInBounds_toArray, List.set_cons_zero, List.set_cons_succ]; rfl)) (hJ7 (gb150) _ ⟨hHeld, (xb BK135.out), (xb BK136.out), (xb BK137.out), (xb BK150.out), GW150.out, GE150.out, NB135_150.out, NB150_135.out, NB136_150.out, NB150_136.out, NB137_150.out, NB150_137.out, (xs HB.out)⟩)
                                · skip
                                  rintro gb150 w53 ⟨hS_, h0_, h1_, h2_, h3_, h4_, h5_, h6_, h7_, h8_, h9_, h10_, h11_, h12_⟩
                                  have n0_ : Aside0 (w53.heap[gb135]? = some (.cells #[.int .i64 a0_0, .int .i64 a0_1] 42 (0, 0))) := ⟨h0_⟩
                                  have n1_ : Aside0 (w53.heap[gb136]? = some (.cells #[.int .i64 a1_0, .int .i64 a1_1] 42 (0, 0))) := ⟨h1_⟩
                                  have n2_ : Aside0 (w53.heap[gb137]? = some (.cells #[.int .i64 a2_0, .int .i64 a2_1] 42 (0, 0))) := ⟨h2_⟩
                                  have n3_ : Aside0 (w53.heap[gb150]? = some (.cells #[.int .i64 0, .int .i64 0, .int .i64 0, .int .i64 0] 85 (0, 0))) := ⟨h3_⟩
                                  have n4_ : Aside0 (w.heap.size ≤ gb150) := ⟨h4_⟩
                                  have n5_ : Aside0 (w.heap.size ≤ gb150) := ⟨h5_⟩
                                  have n6_ : Aside0 (gb135 ≠ gb150) := ⟨h6_⟩
                                  have n7_ : Aside0 (gb150 ≠ gb135) := ⟨h7_⟩
                                  have n8_ : Aside0 (gb136 ≠ gb150) := ⟨h8_⟩
                                  have n9_ : Aside0 (gb150 ≠ gb136) := ⟨h9_⟩
                                  have n10_ : Aside0 (gb137 ≠ gb150) := ⟨h10_⟩
                                  have n11_ : Aside0 (gb150 ≠ gb137) := ⟨h11_⟩
                                  have n12_ : Aside0 (Below w.heap.size w w53) := ⟨h12_⟩
                                  clear BK135
                                  clear BK136
                                  clear BK137
                                  clear HB
                                  clear h0_ h1_ h2_ h3_ h4_ h5_ h6_ h7_ h8_ h9_ h10_ h11_ h12_
                                  have BK135 := n0_
                                  have BK136 := n1_
                                  have BK137 := n2_
                                  have BK150 := n3_
                                  have GW150 := n4_
                                  have GE150 := n5_
                                  have NB135_150 := n6_
                                  have NB150_135 := n7_
                                  have NB136_150 := n8_
                                  have NB150_136 := n9_
                                  have NB137_150 := n10_
                                  have NB150_137 := n11_
                                  have HB := n12_
                                  clear n0_ n1_ n2_ n3_ n4_ n5_ n6_ n7_ n8_ n9_ n10_ n11_ n12_
                                  have hHeld : w53.cell? ⟨gb135, 0, none⟩ = some (.int .i64 a0_0) ∧ w53.cell? ⟨gb135, 1, none⟩ = some (.int .i64 a0_1) ∧ w53.cell? ⟨gb137, 0, none⟩ = some (.int .i64 a2_0) ∧ w53.cell? ⟨gb137, 1, none⟩ = some (.int .i64 a2_1) ∧ w53.cell? ⟨gb136, 0, none⟩ = some (.int .i64 a1_0) ∧ w53.cell? ⟨gb136, 1, none⟩ = some (.int .i64 a1_1) := hS_
                                  refine norm_ (a' := ?_) ?_ ?_
                                  rotate_left
                                  · simp only [putAll, Act.put, List.setIfInBounds_toArray, List.set_cons_zero, List.set_cons_succ]
                                    rfl
                                  refine two_ (i := 2) (j := 6) (Ni := some 35) (Nj := some 9) #[true, true, true, true, true, false, false, true, false, false] #[true, true, false, true, true, false, true, true, false, false] rfl rfl rfl rfl (two_of HT_.out (by kernel_rfl)) (by decide) (by decide) (fun K hK => ?_) (fun K hK => ?_)
                                  · skip
                                    refine goes_ Try.func73 (by kernel_rfl) rfl #[.agg #[.int .i64 a0_0, .int .i64 a0_1], .agg #[.int .i64 a2_0, .int .i64 a2_1]] (by rfl) rfl rfl (by (try simp only [List.map_toArray, List.map_cons, List.map_nil]); first | done | rfl | (simp only [List.length_drop, List.length_take]; rfl)) ?_
                                    with_reducible refine (spec_saGap.calls a0_0 a0_1 a2_0 a2_1 t141 t142 t143 t144 _ A48.out).mono ?_
                                    rintro e w54 ⟨rfl, hb⟩
                                    refine ⟨_, rfl, ?_⟩
                                    have n0_ := Aside0.mk (blk_below (g := gb135) (o := .cells #[.int .i64 a0_0, .int .i64 a0_1] 42 (0, 0)) (xb BK135.out) hb)
                                    have n1_ := Aside0.mk (blk_below (g := gb136) (o := .cells #[.int .i64 a1_0, .int .i64 a1_1] 42 (0, 0)) (xb BK136.out) hb)
                                    have n2_ := Aside0.mk (blk_below (g := gb137) (o := .cells #[.int .i64 a2_0, .int .i64 a2_1] 42 (0, 0)) (xb BK137.out) hb)
                                    have n3_ := Aside0.mk (blk_below (g := gb150) (o := .cells #[.int .i64 0, .int .i64 0, .int .i64 0, .int .i64 0] 85 (0, 0)) (xb BK150.out) hb)
                                    have n4_ := Aside0.mk (below_step (xs HB.out) hb)
                                    clear BK135
                                    clear BK136
                                    clear BK137
                                    clear BK150
                                    clear HB
                                    have BK135 := n0_
                                    have BK136 := n1_
                                    have BK137 := n2_
                                    have BK150 := n3_
                                    have HB := n4_
                                    clear n0_ n1_ n2_ n3_ n4_
                                    (try clear hb)
                                    (try clear hb2)
                                    (try clear hk)
                                    (try clear hi)
                                    refine hK.out _ _ ⟨(blk_cell BK135.out 0).trans rfl, (blk_cell BK135.out 1).trans rfl, (blk_cell BK137.out 0).trans rfl, (blk_cell BK137.out 1).trans rfl, (blk_cell BK136.out 0).trans rfl, (blk_cell BK136.out 1).trans rfl⟩ (fun hHeld => ?_)
                                    clear hK K
                                    refine norm_ (a' := ?_) ?_ ?_
                                    rotate_left
                                    · show Act.put _ (some 35) _ = _
                                      simp only [Act.put, List.setIfInBounds_toArray, List.set_cons_zero, List.set_cons_succ, i64_w, i32_w]
                                      rfl
                                    exact norm_ (by first | (simp only [putAll, Act.put, List.setIfInBounds_toArray, List.set_cons_zero, List.set_cons_succ]; done) | (simp only [putAll, Act.put, List.setIfInBounds_toArray, List.set_cons_zero, List.set_cons_succ]; rfl)) (hJ2_7 (gb150) _ ⟨hHeld, (xb BK135.out), (xb BK136.out), (xb BK137.out), (xb BK150.out), GW150.out, GE150.out, NB135_150.out, NB150_135.out, NB136_150.out, NB150_136.out, NB137_150.out, NB150_137.out, (xs HB.out)⟩)
                                  · skip
                                    refine box_step ?hg (N := 9) ?hd (cs := #[.int .i64 0, .int .i64 0, .int .i64 0, .int .i64 0]) (t := 85) ?hr ?_; (case hd => rfl); (case hg => rfl); (case hr => first | (go_simp; done) | (go_simp; rfl))
                                    intro gb149 hg w54 hbox hb
                                    have n0_ := Aside0.mk (blk_below (g := gb135) (o := .cells #[.int .i64 a0_0, .int .i64 a0_1] 42 (0, 0)) (xb BK135.out) hb)
                                    have n1_ := Aside0.mk (blk_below (g := gb136) (o := .cells #[.int .i64 a1_0, .int .i64 a1_1] 42 (0, 0)) (xb BK136.out) hb)
                                    have n2_ := Aside0.mk (blk_below (g := gb137) (o := .cells #[.int .i64 a2_0, .int .i64 a2_1] 42 (0, 0)) (xb BK137.out) hb)
                                    have n3_ := Aside0.mk (blk_below (g := gb150) (o := .cells #[.int .i64 0, .int .i64 0, .int .i64 0, .int .i64 0] 85 (0, 0)) (xb BK150.out) hb)
                                    have n4_ := Aside0.mk (below_step (xs HB.out) hb)
                                    have n5_ := Aside0.mk (hbox)
                                    have n6_ := Aside0.mk ((by rw [hg]; exact (below_size (xs HB.out)) : w.heap.size ≤ gb149))
                                    have n7_ := Aside0.mk ((by rw [hg]; exact (below_size (xs HB.out)) : w.heap.size ≤ gb149))
                                    have n8_ := Aside0.mk ((by rw [hg]; exact Nat.ne_of_lt (blk_lt (g := gb135) (o := .cells #[.int .i64 a0_0, .int .i64 a0_1] 42 (0, 0)) (xb BK135.out)) : gb135 ≠ gb149))
                                    have n9_ := Aside0.mk ((by rw [hg]; exact Nat.ne_of_gt (blk_lt (g := gb135) (o := .cells #[.int .i64 a0_0, .int .i64 a0_1] 42 (0, 0)) (xb BK135.out)) : gb149 ≠ gb135))
                                    have n10_ := Aside0.mk ((by rw [hg]; exact Nat.ne_of_lt (blk_lt (g := gb136) (o := .cells #[.int .i64 a1_0, .int .i64 a1_1] 42 (0, 0)) (xb BK136.out)) : gb136 ≠ gb149))
                                    have n11_ := Aside0.mk ((by rw [hg]; exact Nat.ne_of_gt (blk_lt (g := gb136) (o := .cells #[.int .i64 a1_0, .int .i64 a1_1] 42 (0, 0)) (xb BK136.out)) : gb149 ≠ gb136))
                                    have n12_ := Aside0.mk ((by rw [hg]; exact Nat.ne_of_lt (blk_lt (g := gb137) (o := .cells #[.int .i64 a2_0, .int .i64 a2_1] 42 (0, 0)) (xb BK137.out)) : gb137 ≠ gb149))
                                    have n13_ := Aside0.mk ((by rw [hg]; exact Nat.ne_of_gt (blk_lt (g := gb137) (o := .cells #[.int .i64 a2_0, .int .i64 a2_1] 42 (0, 0)) (xb BK137.out)) : gb149 ≠ gb137))
                                    have n14_ := Aside0.mk ((by rw [hg]; exact Nat.ne_of_lt (blk_lt (g := gb150) (o := .cells #[.int .i64 0, .int .i64 0, .int .i64 0, .int .i64 0] 85 (0, 0)) (xb BK150.out)) : gb150 ≠ gb149))
                                    have n15_ := Aside0.mk ((by rw [hg]; exact Nat.ne_of_gt (blk_lt (g := gb150) (o := .cells #[.int .i64 0, .int .i64 0, .int .i64 0, .int .i64 0] 85 (0, 0)) (xb BK150.out)) : gb149 ≠ gb150))
                                    clear BK135
                                    clear BK136
                                    clear BK137
                                    clear BK150
                                    clear HB
                                    have BK135 := n0_
                                    have BK136 := n1_
                                    have BK137 := n2_
                                    have BK150 := n3_
                                    have HB := n4_
                                    have BK149 := n5_
                                    have GW149 := n6_
                                    have GE149 := n7_
                                    have NB135_149 := n8_
                                    have NB149_135 := n9_
                                    have NB136_149 := n10_
                                    have NB149_136 := n11_
                                    have NB137_149 := n12_
                                    have NB149_137 := n13_
                                    have NB150_149 := n14_
                                    have NB149_150 := n15_
                                    clear n0_ n1_ n2_ n3_ n4_ n5_ n6_ n7_ n8_ n9_ n10_ n11_ n12_ n13_ n14_ n15_
                                    clear hb hbox hg
                                    refine hK.out _ _ ⟨(blk_cell BK135.out 0).trans rfl, (blk_cell BK135.out 1).trans rfl, (blk_cell BK137.out 0).trans rfl, (blk_cell BK137.out 1).trans rfl, (blk_cell BK136.out 0).trans rfl, (blk_cell BK136.out 1).trans rfl⟩ (fun hHeld => ?_)
                                    clear hK K
                                    refine norm_ (a' := ?_) ?_ ?_
                                    rotate_left
                                    · show Act.put _ (some 9) _ = _
                                      simp only [Act.put, List.setIfInBounds_toArray, List.set_cons_zero, List.set_cons_succ, i64_w, i32_w]
                                      rfl
                                    exact norm_ (by first | (simp only [putAll, Act.put, List.setIfInBounds_toArray, List.set_cons_zero, List.set_cons_succ]; done) | (simp only [putAll, Act.put, List.setIfInBounds_toArray, List.set_cons_zero, List.set_cons_succ]; rfl)) (hJ6_7 (gb149, gb150) _ ⟨hHeld, (xb BK135.out), (xb BK136.out), (xb BK137.out), (xb BK149.out), (xb BK150.out), GW149.out, GE149.out, NB135_149.out, NB149_135.out, NB136_149.out, NB149_136.out, NB137_149.out, NB149_137.out, NB150_149.out, NB149_150.out, GW150.out, GE150.out, NB135_150.out, NB150_135.out, NB136_150.out, NB150_136.out, NB137_150.out, NB150_137.out, (xs HB.out)⟩)
                              · skip
                                rintro gb149 w53 ⟨hS_, h0_, h1_, h2_, h3_, h4_, h5_, h6_, h7_, h8_, h9_, h10_, h11_, h12_⟩
                                have n0_ : Aside0 (w53.heap[gb135]? = some (.cells #[.int .i64 a0_0, .int .i64 a0_1] 42 (0, 0))) := ⟨h0_⟩
                                have n1_ : Aside0 (w53.heap[gb136]? = some (.cells #[.int .i64 a1_0, .int .i64 a1_1] 42 (0, 0))) := ⟨h1_⟩
                                have n2_ : Aside0 (w53.heap[gb137]? = some (.cells #[.int .i64 a2_0, .int .i64 a2_1] 42 (0, 0))) := ⟨h2_⟩
                                have n3_ : Aside0 (w53.heap[gb149]? = some (.cells #[.int .i64 0, .int .i64 0, .int .i64 0, .int .i64 0] 85 (0, 0))) := ⟨h3_⟩
                                have n4_ : Aside0 (w.heap.size ≤ gb149) := ⟨h4_⟩
                                have n5_ : Aside0 (w.heap.size ≤ gb149) := ⟨h5_⟩
                                have n6_ : Aside0 (gb135 ≠ gb149) := ⟨h6_⟩
                                have n7_ : Aside0 (gb149 ≠ gb135) := ⟨h7_⟩
                                have n8_ : Aside0 (gb136 ≠ gb149) := ⟨h8_⟩
                                have n9_ : Aside0 (gb149 ≠ gb136) := ⟨h9_⟩
                                have n10_ : Aside0 (gb137 ≠ gb149) := ⟨h10_⟩
                                have n11_ : Aside0 (gb149 ≠ gb137) := ⟨h11_⟩
                                have n12_ : Aside0 (Below w.heap.size w w53) := ⟨h12_⟩
                                clear BK135
                                clear BK136
                                clear BK137
                                clear HB
                                clear h0_ h1_ h2_ h3_ h4_ h5_ h6_ h7_ h8_ h9_ h10_ h11_ h12_
                                have BK135 := n0_
                                have BK136 := n1_
                                have BK137 := n2_
                                have BK149 := n3_
                                have GW149 := n4_
                                have GE149 := n5_
                                have NB135_149 := n6_
                                have NB149_135 := n7_
                                have NB136_149 := n8_
                                have NB149_136 := n9_
                                have NB137_149 := n10_
                                have NB149_137 := n11_
                                have HB := n12_
                                clear n0_ n1_ n2_ n3_ n4_ n5_ n6_ n7_ n8_ n9_ n10_ n11_ n12_
                                have hHeld : w53.cell? ⟨gb135, 0, none⟩ = some (.int .i64 a0_0) ∧ w53.cell? ⟨gb135, 1, none⟩ = some (.int .i64 a0_1) ∧ w53.cell? ⟨gb137, 0, none⟩ = some (.int .i64 a2_0) ∧ w53.cell? ⟨gb137, 1, none⟩ = some (.int .i64 a2_1) ∧ w53.cell? ⟨gb136, 0, none⟩ = some (.int .i64 a1_0) ∧ w53.cell? ⟨gb136, 1, none⟩ = some (.int .i64 a1_1) := hS_
                                refine norm_ (a' := ?_) ?_ ?_
                                rotate_left
                                · simp only [putAll, Act.put, List.setIfInBounds_toArray, List.set_cons_zero, List.set_cons_succ]
                                  rfl
                                refine two_ (i := 2) (j := 7) (Ni := some 35) (Nj := some 10) #[true, true, true, true, true, false, true, false, false, false] #[true, true, false, true, true, false, true, true, false, false] rfl rfl rfl rfl (two_of HT_.out (by kernel_rfl)) (by decide) (by decide) (fun K hK => ?_) (fun K hK => ?_)
                                · skip
                                  refine goes_ Try.func73 (by kernel_rfl) rfl #[.agg #[.int .i64 a0_0, .int .i64 a0_1], .agg #[.int .i64 a2_0, .int .i64 a2_1]] (by rfl) rfl rfl (by (try simp only [List.map_toArray, List.map_cons, List.map_nil]); first | done | rfl | (simp only [List.length_drop, List.length_take]; rfl)) ?_
                                  with_reducible refine (spec_saGap.calls a0_0 a0_1 a2_0 a2_1 t141 t142 t143 t144 _ A48.out).mono ?_
                                  rintro e w54 ⟨rfl, hb⟩
                                  refine ⟨_, rfl, ?_⟩
                                  have n0_ := Aside0.mk (blk_below (g := gb135) (o := .cells #[.int .i64 a0_0, .int .i64 a0_1] 42 (0, 0)) (xb BK135.out) hb)
                                  have n1_ := Aside0.mk (blk_below (g := gb136) (o := .cells #[.int .i64 a1_0, .int .i64 a1_1] 42 (0, 0)) (xb BK136.out) hb)
                                  have n2_ := Aside0.mk (blk_below (g := gb137) (o := .cells #[.int .i64 a2_0, .int .i64 a2_1] 42 (0, 0)) (xb BK137.out) hb)
                                  have n3_ := Aside0.mk (blk_below (g := gb149) (o := .cells #[.int .i64 0, .int .i64 0, .int .i64 0, .int .i64 0] 85 (0, 0)) (xb BK149.out) hb)
                                  have n4_ := Aside0.mk (below_step (xs HB.out) hb)
                                  clear BK135
                                  clear BK136
                                  clear BK137
                                  clear BK149
                                  clear HB
                                  have BK135 := n0_
                                  have BK136 := n1_
                                  have BK137 := n2_
                                  have BK149 := n3_
                                  have HB := n4_
                                  clear n0_ n1_ n2_ n3_ n4_
                                  (try clear hb)
                                  (try clear hb2)
                                  (try clear hk)
                                  (try clear hi)
                                  refine hK.out _ _ ⟨(blk_cell BK135.out 0).trans rfl, (blk_cell BK135.out 1).trans rfl, (blk_cell BK137.out 0).trans rfl, (blk_cell BK137.out 1).trans rfl, (blk_cell BK136.out 0).trans rfl, (blk_cell BK136.out 1).trans rfl⟩ (fun hHeld => ?_)
                                  clear hK K
                                  refine norm_ (a' := ?_) ?_ ?_
                                  rotate_left
                                  · show Act.put _ (some 35) _ = _
                                    simp only [Act.put, List.setIfInBounds_toArray, List.set_cons_zero, List.set_cons_succ, i64_w, i32_w]
                                    rfl
                                  exact norm_ (by first | (simp only [putAll, Act.put, List.setIfInBounds_toArray, List.set_cons_zero, List.set_cons_succ]; done) | (simp only [putAll, Act.put, List.setIfInBounds_toArray, List.set_cons_zero, List.set_cons_succ]; rfl)) (hJ2_6 (gb149) _ ⟨hHeld, (xb BK135.out), (xb BK136.out), (xb BK137.out), (xb BK149.out), GW149.out, GE149.out, NB135_149.out, NB149_135.out, NB136_149.out, NB149_136.out, NB137_149.out, NB149_137.out, (xs HB.out)⟩)
                                · skip
                                  refine box_step ?hg (N := 10) ?hd (cs := #[.int .i64 0, .int .i64 0, .int .i64 0, .int .i64 0]) (t := 85) ?hr ?_; (case hd => rfl); (case hg => rfl); (case hr => first | (go_simp; done) | (go_simp; rfl))
                                  intro gb150 hg w54 hbox hb
                                  have n0_ := Aside0.mk (blk_below (g := gb135) (o := .cells #[.int .i64 a0_0, .int .i64 a0_1] 42 (0, 0)) (xb BK135.out) hb)
                                  have n1_ := Aside0.mk (blk_below (g := gb136) (o := .cells #[.int .i64 a1_0, .int .i64 a1_1] 42 (0, 0)) (xb BK136.out) hb)
                                  have n2_ := Aside0.mk (blk_below (g := gb137) (o := .cells #[.int .i64 a2_0, .int .i64 a2_1] 42 (0, 0)) (xb BK137.out) hb)
                                  have n3_ := Aside0.mk (blk_below (g := gb149) (o := .cells #[.int .i64 0, .int .i64 0, .int .i64 0, .int .i64 0] 85 (0, 0)) (xb BK149.out) hb)
                                  have n4_ := Aside0.mk (below_step (xs HB.out) hb)
                                  have n5_ := Aside0.mk (hbox)
                                  have n6_ := Aside0.mk ((by rw [hg]; exact (below_size (xs HB.out)) : w.heap.size ≤ gb150))
                                  have n7_ := Aside0.mk ((by rw [hg]; exact (below_size (xs HB.out)) : w.heap.size ≤ gb150))
                                  have n8_ := Aside0.mk ((by rw [hg]; exact Nat.ne_of_lt (blk_lt (g := gb135) (o := .cells #[.int .i64 a0_0, .int .i64 a0_1] 42 (0, 0)) (xb BK135.out)) : gb135 ≠ gb150))
                                  have n9_ := Aside0.mk ((by rw [hg]; exact Nat.ne_of_gt (blk_lt (g := gb135) (o := .cells #[.int .i64 a0_0, .int .i64 a0_1] 42 (0, 0)) (xb BK135.out)) : gb150 ≠ gb135))
                                  have n10_ := Aside0.mk ((by rw [hg]; exact Nat.ne_of_lt (blk_lt (g := gb136) (o := .cells #[.int .i64 a1_0, .int .i64 a1_1] 42 (0, 0)) (xb BK136.out)) : gb136 ≠ gb150))
                                  have n11_ := Aside0.mk ((by rw [hg]; exact Nat.ne_of_gt (blk_lt (g := gb136) (o := .cells #[.int .i64 a1_0, .int .i64 a1_1] 42 (0, 0)) (xb BK136.out)) : gb150 ≠ gb136))
                                  have n12_ := Aside0.mk ((by rw [hg]; exact Nat.ne_of_lt (blk_lt (g := gb137) (o := .cells #[.int .i64 a2_0, .int .i64 a2_1] 42 (0, 0)) (xb BK137.out)) : gb137 ≠ gb150))
                                  have n13_ := Aside0.mk ((by rw [hg]; exact Nat.ne_of_gt (blk_lt (g := gb137) (o := .cells #[.int .i64 a2_0, .int .i64 a2_1] 42 (0, 0)) (xb BK137.out)) : gb150 ≠ gb137))
                                  have n14_ := Aside0.mk ((by rw [hg]; exact Nat.ne_of_lt (blk_lt (g := gb149) (o := .cells #[.int .i64 0, .int .i64 0, .int .i64 0, .int .i64 0] 85 (0, 0)) (xb BK149.out)) : gb149 ≠ gb150))
                                  have n15_ := Aside0.mk ((by rw [hg]; exact Nat.ne_of_gt (blk_lt (g := gb149) (o := .cells #[.int .i64 0, .int .i64 0, .int .i64 0, .int .i64 0] 85 (0, 0)) (xb BK149.out)) : gb150 ≠ gb149))
                                  clear BK135
                                  clear BK136
                                  clear BK137
                                  clear BK149
                                  clear HB
                                  have BK135 := n0_
                                  have BK136 := n1_
                                  have BK137 := n2_
                                  have BK149 := n3_
                                  have HB := n4_
                                  have BK150 := n5_
                                  have GW150 := n6_
                                  have GE150 := n7_
                                  have NB135_150 := n8_
                                  have NB150_135 := n9_
                                  have NB136_150 := n10_
                                  have NB150_136 := n11_
                                  have NB137_150 := n12_
                                  have NB150_137 := n13_
                                  have NB149_150 := n14_
                                  have NB150_149 := n15_
                                  clear n0_ n1_ n2_ n3_ n4_ n5_ n6_ n7_ n8_ n9_ n10_ n11_ n12_ n13_ n14_ n15_
                                  clear hb hbox hg
                                  refine hK.out _ _ ⟨(blk_cell BK135.out 0).trans rfl, (blk_cell BK135.out 1).trans rfl, (blk_cell BK137.out 0).trans rfl, (blk_cell BK137.out 1).trans rfl, (blk_cell BK136.out 0).trans rfl, (blk_cell BK136.out 1).trans rfl⟩ (fun hHeld => ?_)
                                  clear hK K
                                  refine norm_ (a' := ?_) ?_ ?_
                                  rotate_left
                                  · show Act.put _ (some 10) _ = _
                                    simp only [Act.put, List.setIfInBounds_toArray, List.set_cons_zero, List.set_cons_succ, i64_w, i32_w]
                                    rfl
                                  exact norm_ (by first | (simp only [putAll, Act.put, List.setIfInBounds_toArray, List.set_cons_zero, List.set_cons_succ]; done) | (simp only [putAll, Act.put, List.setIfInBounds_toArray, List.set_cons_zero, List.set_cons_succ]; rfl)) (hJ6_7 (gb149, gb150) _ ⟨hHeld, (xb BK135.out), (xb BK136.out), (xb BK137.out), (xb BK149.out), (xb BK150.out), GW149.out, GE149.out, NB135_149.out, NB149_135.out, NB136_149.out, NB149_136.out, NB137_149.out, NB149_137.out, NB150_149.out, NB149_150.out, GW150.out, GE150.out, NB135_150.out, NB150_135.out, NB136_150.out, NB150_136.out, NB137_150.out, NB150_137.out, (xs HB.out)⟩)
                            · skip
                              rintro _ w53 ⟨hS_, h0_, h1_, h2_, h3_⟩
                              have n0_ : Aside0 (w53.heap[gb135]? = some (.cells #[.int .i64 a0_0, .int .i64 a0_1] 42 (0, 0))) := ⟨h0_⟩
                              have n1_ : Aside0 (w53.heap[gb136]? = some (.cells #[.int .i64 a1_0, .int .i64 a1_1] 42 (0, 0))) := ⟨h1_⟩
                              have n2_ : Aside0 (w53.heap[gb137]? = some (.cells #[.int .i64 a2_0, .int .i64 a2_1] 42 (0, 0))) := ⟨h2_⟩
                              have n3_ : Aside0 (Below w.heap.size w w53) := ⟨h3_⟩
                              clear BK135
                              clear BK136
                              clear BK137
                              clear HB
                              clear h0_ h1_ h2_ h3_
                              have BK135 := n0_
                              have BK136 := n1_
                              have BK137 := n2_
                              have HB := n3_
                              clear n0_ n1_ n2_ n3_
                              have hHeld : w53.cell? ⟨gb135, 0, none⟩ = some (.int .i64 a0_0) ∧ w53.cell? ⟨gb135, 1, none⟩ = some (.int .i64 a0_1) ∧ w53.cell? ⟨gb137, 0, none⟩ = some (.int .i64 a2_0) ∧ w53.cell? ⟨gb137, 1, none⟩ = some (.int .i64 a2_1) ∧ w53.cell? ⟨gb136, 0, none⟩ = some (.int .i64 a1_0) ∧ w53.cell? ⟨gb136, 1, none⟩ = some (.int .i64 a1_1) := hS_
                              refine norm_ (a' := ?_) ?_ ?_
                              rotate_left
                              · simp only [putAll, Act.put, List.setIfInBounds_toArray, List.set_cons_zero, List.set_cons_succ]
                                rfl
                              refine three_ (i := 5) (j := 6) (k := 7) (Ni := some 38) (Nj := some 9) (Nk := some 10) #[true, true, true, true, true, true, false, false, false, false] #[true, true, true, true, true, false, true, false, false, false] #[true, true, true, true, true, false, false, true, false, false] rfl rfl rfl rfl rfl rfl (three_of HT_.out (by kernel_rfl)) (by decide) (by decide) (by decide) (fun K hK => ?_) (fun K hK => ?_) (fun K hK => ?_)
                              · skip
                                refine goes_ Try.func73 (by kernel_rfl) rfl #[.agg #[.int .i64 a2_0, .int .i64 a2_1], .agg #[.int .i64 a1_0, .int .i64 a1_1]] (by rfl) rfl rfl (by (try simp only [List.map_toArray, List.map_cons, List.map_nil]); first | done | rfl | (simp only [List.length_drop, List.length_take]; rfl)) ?_
                                with_reducible refine (spec_saGap.calls a2_0 a2_1 a1_0 a1_1 t145 t146 t147 t148 _ A49.out).mono ?_
                                rintro e w54 ⟨rfl, hb⟩
                                refine ⟨_, rfl, ?_⟩
                                have n0_ := Aside0.mk (blk_below (g := gb135) (o := .cells #[.int .i64 a0_0, .int .i64 a0_1] 42 (0, 0)) (xb BK135.out) hb)
                                have n1_ := Aside0.mk (blk_below (g := gb136) (o := .cells #[.int .i64 a1_0, .int .i64 a1_1] 42 (0, 0)) (xb BK136.out) hb)
                                have n2_ := Aside0.mk (blk_below (g := gb137) (o := .cells #[.int .i64 a2_0, .int .i64 a2_1] 42 (0, 0)) (xb BK137.out) hb)
                                have n3_ := Aside0.mk (below_step (xs HB.out) hb)
                                clear BK135
                                clear BK136
                                clear BK137
                                clear HB
                                have BK135 := n0_
                                have BK136 := n1_
                                have BK137 := n2_
                                have HB := n3_
                                clear n0_ n1_ n2_ n3_
                                (try clear hb)
                                (try clear hb2)
                                (try clear hk)
                                (try clear hi)
                                refine hK.out _ _ ⟨(blk_cell BK135.out 0).trans rfl, (blk_cell BK135.out 1).trans rfl, (blk_cell BK137.out 0).trans rfl, (blk_cell BK137.out 1).trans rfl, (blk_cell BK136.out 0).trans rfl, (blk_cell BK136.out 1).trans rfl⟩ (fun hHeld => ?_)
                                clear hK K
                                refine norm_ (a' := ?_) ?_ ?_
                                rotate_left
                                · show Act.put _ (some 38) _ = _
                                  simp only [Act.put, List.setIfInBounds_toArray, List.set_cons_zero, List.set_cons_succ, i64_w, i32_w]
                                  rfl
                                exact norm_ (by first | (simp only [putAll, Act.put, List.setIfInBounds_toArray, List.set_cons_zero, List.set_cons_succ]; done) | (simp only [putAll, Act.put, List.setIfInBounds_toArray, List.set_cons_zero, List.set_cons_succ]; rfl)) (hJ2_5 () _ ⟨hHeld, (xb BK135.out), (xb BK136.out), (xb BK137.out), (xs HB.out)⟩)
                              · skip
                                refine box_step ?hg (N := 9) ?hd (cs := #[.int .i64 0, .int .i64 0, .int .i64 0, .int .i64 0]) (t := 85) ?hr ?_; (case hd => rfl); (case hg => rfl); (case hr => first | (go_simp; done) | (go_simp; rfl))
                                intro gb149 hg w54 hbox hb
                                have n0_ := Aside0.mk (blk_below (g := gb135) (o := .cells #[.int .i64 a0_0, .int .i64 a0_1] 42 (0, 0)) (xb BK135.out) hb)
                                have n1_ := Aside0.mk (blk_below (g := gb136) (o := .cells #[.int .i64 a1_0, .int .i64 a1_1] 42 (0, 0)) (xb BK136.out) hb)
                                have n2_ := Aside0.mk (blk_below (g := gb137) (o := .cells #[.int .i64 a2_0, .int .i64 a2_1] 42 (0, 0)) (xb BK137.out) hb)
                                have n3_ := Aside0.mk (below_step (xs HB.out) hb)
                                have n4_ := Aside0.mk (hbox)
                                have n5_ := Aside0.mk ((by rw [hg]; exact (below_size (xs HB.out)) : w.heap.size ≤ gb149))
                                have n6_ := Aside0.mk ((by rw [hg]; exact (below_size (xs HB.out)) : w.heap.size ≤ gb149))
                                have n7_ := Aside0.mk ((by rw [hg]; exact Nat.ne_of_lt (blk_lt (g := gb135) (o := .cells #[.int .i64 a0_0, .int .i64 a0_1] 42 (0, 0)) (xb BK135.out)) : gb135 ≠ gb149))
                                have n8_ := Aside0.mk ((by rw [hg]; exact Nat.ne_of_gt (blk_lt (g := gb135) (o := .cells #[.int .i64 a0_0, .int .i64 a0_1] 42 (0, 0)) (xb BK135.out)) : gb149 ≠ gb135))
                                have n9_ := Aside0.mk ((by rw [hg]; exact Nat.ne_of_lt (blk_lt (g := gb136) (o := .cells #[.int .i64 a1_0, .int .i64 a1_1] 42 (0, 0)) (xb BK136.out)) : gb136 ≠ gb149))
                                have n10_ := Aside0.mk ((by rw [hg]; exact Nat.ne_of_gt (blk_lt (g := gb136) (o := .cells #[.int .i64 a1_0, .int .i64 a1_1] 42 (0, 0)) (xb BK136.out)) : gb149 ≠ gb136))
                                have n11_ := Aside0.mk ((by rw [hg]; exact Nat.ne_of_lt (blk_lt (g := gb137) (o := .cells #[.int .i64 a2_0, .int .i64 a2_1] 42 (0, 0)) (xb BK137.out)) : gb137 ≠ gb149))
                                have n12_ := Aside0.mk ((by rw [hg]; exact Nat.ne_of_gt (blk_lt (g := gb137) (o := .cells #[.int .i64 a2_0, .int .i64 a2_1] 42 (0, 0)) (xb BK137.out)) : gb149 ≠ gb137))
                                clear BK135
                                clear BK136
                                clear BK137
                                clear HB
                                have BK135 := n0_
                                have BK136 := n1_
                                have BK137 := n2_
                                have HB := n3_
                                have BK149 := n4_
                                have GW149 := n5_
                                have GE149 := n6_
                                have NB135_149 := n7_
                                have NB149_135 := n8_
                                have NB136_149 := n9_
                                have NB149_136 := n10_
                                have NB137_149 := n11_
                                have NB149_137 := n12_
                                clear n0_ n1_ n2_ n3_ n4_ n5_ n6_ n7_ n8_ n9_ n10_ n11_ n12_
                                clear hb hbox hg
                                refine hK.out _ _ ⟨(blk_cell BK135.out 0).trans rfl, (blk_cell BK135.out 1).trans rfl, (blk_cell BK137.out 0).trans rfl, (blk_cell BK137.out 1).trans rfl, (blk_cell BK136.out 0).trans rfl, (blk_cell BK136.out 1).trans rfl⟩ (fun hHeld => ?_)
                                clear hK K
                                refine norm_ (a' := ?_) ?_ ?_
                                rotate_left
                                · show Act.put _ (some 9) _ = _
                                  simp only [Act.put, List.setIfInBounds_toArray, List.set_cons_zero, List.set_cons_succ, i64_w, i32_w]
                                  rfl
                                exact norm_ (by first | (simp only [putAll, Act.put, List.setIfInBounds_toArray, List.set_cons_zero, List.set_cons_succ]; done) | (simp only [putAll, Act.put, List.setIfInBounds_toArray, List.set_cons_zero, List.set_cons_succ]; rfl)) (hJ2_6 (gb149) _ ⟨hHeld, (xb BK135.out), (xb BK136.out), (xb BK137.out), (xb BK149.out), GW149.out, GE149.out, NB135_149.out, NB149_135.out, NB136_149.out, NB149_136.out, NB137_149.out, NB149_137.out, (xs HB.out)⟩)
                              · skip
                                refine box_step ?hg (N := 10) ?hd (cs := #[.int .i64 0, .int .i64 0, .int .i64 0, .int .i64 0]) (t := 85) ?hr ?_; (case hd => rfl); (case hg => rfl); (case hr => first | (go_simp; done) | (go_simp; rfl))
                                intro gb150 hg w54 hbox hb
                                have n0_ := Aside0.mk (blk_below (g := gb135) (o := .cells #[.int .i64 a0_0, .int .i64 a0_1] 42 (0, 0)) (xb BK135.out) hb)
                                have n1_ := Aside0.mk (blk_below (g := gb136) (o := .cells #[.int .i64 a1_0, .int .i64 a1_1] 42 (0, 0)) (xb BK136.out) hb)
                                have n2_ := Aside0.mk (blk_below (g := gb137) (o := .cells #[.int .i64 a2_0, .int .i64 a2_1] 42 (0, 0)) (xb BK137.out) hb)
                                have n3_ := Aside0.mk (below_step (xs HB.out) hb)
                                have n4_ := Aside0.mk (hbox)
                                have n5_ := Aside0.mk ((by rw [hg]; exact (below_size (xs HB.out)) : w.heap.size ≤ gb150))
                                have n6_ := Aside0.mk ((by rw [hg]; exact (below_size (xs HB.out)) : w.heap.size ≤ gb150))
                                have n7_ := Aside0.mk ((by rw [hg]; exact Nat.ne_of_lt (blk_lt (g := gb135) (o := .cells #[.int .i64 a0_0, .int .i64 a0_1] 42 (0, 0)) (xb BK135.out)) : gb135 ≠ gb150))
                                have n8_ := Aside0.mk ((by rw [hg]; exact Nat.ne_of_gt (blk_lt (g := gb135) (o := .cells #[.int .i64 a0_0, .int .i64 a0_1] 42 (0, 0)) (xb BK135.out)) : gb150 ≠ gb135))
                                have n9_ := Aside0.mk ((by rw [hg]; exact Nat.ne_of_lt (blk_lt (g := gb136) (o := .cells #[.int .i64 a1_0, .int .i64 a1_1] 42 (0, 0)) (xb BK136.out)) : gb136 ≠ gb150))
                                have n10_ := Aside0.mk ((by rw [hg]; exact Nat.ne_of_gt (blk_lt (g := gb136) (o := .cells #[.int .i64 a1_0, .int .i64 a1_1] 42 (0, 0)) (xb BK136.out)) : gb150 ≠ gb136))
                                have n11_ := Aside0.mk ((by rw [hg]; exact Nat.ne_of_lt (blk_lt (g := gb137) (o := .cells #[.int .i64 a2_0, .int .i64 a2_1] 42 (0, 0)) (xb BK137.out)) : gb137 ≠ gb150))
                                have n12_ := Aside0.mk ((by rw [hg]; exact Nat.ne_of_gt (blk_lt (g := gb137) (o := .cells #[.int .i64 a2_0, .int .i64 a2_1] 42 (0, 0)) (xb BK137.out)) : gb150 ≠ gb137))
                                clear BK135
                                clear BK136
                                clear BK137
                                clear HB
                                have BK135 := n0_
                                have BK136 := n1_
                                have BK137 := n2_
                                have HB := n3_
                                have BK150 := n4_
                                have GW150 := n5_
                                have GE150 := n6_
                                have NB135_150 := n7_
                                have NB150_135 := n8_
                                have NB136_150 := n9_
                                have NB150_136 := n10_
                                have NB137_150 := n11_
                                have NB150_137 := n12_
                                clear n0_ n1_ n2_ n3_ n4_ n5_ n6_ n7_ n8_ n9_ n10_ n11_ n12_
                                clear hb hbox hg
                                refine hK.out _ _ ⟨(blk_cell BK135.out 0).trans rfl, (blk_cell BK135.out 1).trans rfl, (blk_cell BK137.out 0).trans rfl, (blk_cell BK137.out 1).trans rfl, (blk_cell BK136.out 0).trans rfl, (blk_cell BK136.out 1).trans rfl⟩ (fun hHeld => ?_)
                                clear hK K
                                refine norm_ (a' := ?_) ?_ ?_
                                rotate_left
                                · show Act.put _ (some 10) _ = _
                                  simp only [Act.put, List.setIfInBounds_toArray, List.set_cons_zero, List.set_cons_succ, i64_w, i32_w]
                                  rfl
                                exact norm_ (by first | (simp only [putAll, Act.put, List.setIfInBounds_toArray, List.set_cons_zero, List.set_cons_succ]; done) | (simp only [putAll, Act.put, List.setIfInBounds_toArray, List.set_cons_zero, List.set_cons_succ]; rfl)) (hJ2_7 (gb150) _ ⟨hHeld, (xb BK135.out), (xb BK136.out), (xb BK137.out), (xb BK150.out), GW150.out, GE150.out, NB135_150.out, NB150_135.out, NB136_150.out, NB150_136.out, NB137_150.out, NB150_137.out, (xs HB.out)⟩)
                          · skip
                            rintro ⟨gb149, gb150⟩ w54 ⟨hS_, h0_, h1_, h2_, h3_, h4_, h5_, h6_, h7_, h8_, h9_, h10_, h11_, h12_, h13_, h14_, h15_, h16_, h17_, h18_, h19_, h20_, h21_, h22_, h23_⟩
                            have n0_ : Aside0 (w54.heap[gb135]? = some (.cells #[.int .i64 a0_0, .int .i64 a0_1] 42 (0, 0))) := ⟨h0_⟩
                            have n1_ : Aside0 (w54.heap[gb136]? = some (.cells #[.int .i64 a1_0, .int .i64 a1_1] 42 (0, 0))) := ⟨h1_⟩
                            have n2_ : Aside0 (w54.heap[gb137]? = some (.cells #[.int .i64 a2_0, .int .i64 a2_1] 42 (0, 0))) := ⟨h2_⟩
                            have n3_ : Aside0 (w54.heap[gb149]? = some (.cells #[.int .i64 0, .int .i64 0, .int .i64 0, .int .i64 0] 85 (0, 0))) := ⟨h3_⟩
                            have n4_ : Aside0 (w54.heap[gb150]? = some (.cells #[.int .i64 0, .int .i64 0, .int .i64 0, .int .i64 0] 85 (0, 0))) := ⟨h4_⟩
                            have n5_ : Aside0 (w.heap.size ≤ gb149) := ⟨h5_⟩
                            have n6_ : Aside0 (w.heap.size ≤ gb149) := ⟨h6_⟩
                            have n7_ : Aside0 (gb135 ≠ gb149) := ⟨h7_⟩
                            have n8_ : Aside0 (gb149 ≠ gb135) := ⟨h8_⟩
                            have n9_ : Aside0 (gb136 ≠ gb149) := ⟨h9_⟩
                            have n10_ : Aside0 (gb149 ≠ gb136) := ⟨h10_⟩
                            have n11_ : Aside0 (gb137 ≠ gb149) := ⟨h11_⟩
                            have n12_ : Aside0 (gb149 ≠ gb137) := ⟨h12_⟩
                            have n13_ : Aside0 (gb150 ≠ gb149) := ⟨h13_⟩
                            have n14_ : Aside0 (gb149 ≠ gb150) := ⟨h14_⟩
                            have n15_ : Aside0 (w.heap.size ≤ gb150) := ⟨h15_⟩
                            have n16_ : Aside0 (w.heap.size ≤ gb150) := ⟨h16_⟩
                            have n17_ : Aside0 (gb135 ≠ gb150) := ⟨h17_⟩
                            have n18_ : Aside0 (gb150 ≠ gb135) := ⟨h18_⟩
                            have n19_ : Aside0 (gb136 ≠ gb150) := ⟨h19_⟩
                            have n20_ : Aside0 (gb150 ≠ gb136) := ⟨h20_⟩
                            have n21_ : Aside0 (gb137 ≠ gb150) := ⟨h21_⟩
                            have n22_ : Aside0 (gb150 ≠ gb137) := ⟨h22_⟩
                            have n23_ : Aside0 (Below w.heap.size w w54) := ⟨h23_⟩
                            clear BK135
                            clear BK136
                            clear BK137
                            clear HB
                            clear h0_ h1_ h2_ h3_ h4_ h5_ h6_ h7_ h8_ h9_ h10_ h11_ h12_ h13_ h14_ h15_ h16_ h17_ h18_ h19_ h20_ h21_ h22_ h23_
                            have BK135 := n0_
                            have BK136 := n1_
                            have BK137 := n2_
                            have BK149 := n3_
                            have BK150 := n4_
                            have GW149 := n5_
                            have GE149 := n6_
                            have NB135_149 := n7_
                            have NB149_135 := n8_
                            have NB136_149 := n9_
                            have NB149_136 := n10_
                            have NB137_149 := n11_
                            have NB149_137 := n12_
                            have NB150_149 := n13_
                            have NB149_150 := n14_
                            have GW150 := n15_
                            have GE150 := n16_
                            have NB135_150 := n17_
                            have NB150_135 := n18_
                            have NB136_150 := n19_
                            have NB150_136 := n20_
                            have NB137_150 := n21_
                            have NB150_137 := n22_
                            have HB := n23_
                            clear n0_ n1_ n2_ n3_ n4_ n5_ n6_ n7_ n8_ n9_ n10_ n11_ n12_ n13_ n14_ n15_ n16_ n17_ n18_ n19_ n20_ n21_ n22_ n23_
                            have hHeld : w54.cell? ⟨gb135, 0, none⟩ = some (.int .i64 a0_0) ∧ w54.cell? ⟨gb135, 1, none⟩ = some (.int .i64 a0_1) ∧ w54.cell? ⟨gb137, 0, none⟩ = some (.int .i64 a2_0) ∧ w54.cell? ⟨gb137, 1, none⟩ = some (.int .i64 a2_1) ∧ w54.cell? ⟨gb136, 0, none⟩ = some (.int .i64 a1_0) ∧ w54.cell? ⟨gb136, 1, none⟩ = some (.int .i64 a1_1) := hS_
                            refine norm_ (a' := ?_) ?_ ?_
                            rotate_left
                            · simp only [putAll, Act.put, List.setIfInBounds_toArray, List.set_cons_zero, List.set_cons_succ]
                              rfl
                            refine one_ (i := 2) (N := some 35) #[true, true, true, true, true, false, true, true, false, false] rfl rfl (one_of HT_.out (by kernel_rfl)) (by decide) (fun K hK => ?_)
                            refine goes_ Try.func73 (by kernel_rfl) rfl #[.agg #[.int .i64 a0_0, .int .i64 a0_1], .agg #[.int .i64 a2_0, .int .i64 a2_1]] (by rfl) rfl rfl (by (try simp only [List.map_toArray, List.map_cons, List.map_nil]); first | done | rfl | (simp only [List.length_drop, List.length_take]; rfl)) ?_
                            with_reducible refine (spec_saGap.calls a0_0 a0_1 a2_0 a2_1 t141 t142 t143 t144 _ A48.out).mono ?_
                            rintro e w55 ⟨rfl, hb⟩
                            refine ⟨_, rfl, ?_⟩
                            have n0_ := Aside0.mk (blk_below (g := gb135) (o := .cells #[.int .i64 a0_0, .int .i64 a0_1] 42 (0, 0)) (xb BK135.out) hb)
                            have n1_ := Aside0.mk (blk_below (g := gb136) (o := .cells #[.int .i64 a1_0, .int .i64 a1_1] 42 (0, 0)) (xb BK136.out) hb)
                            have n2_ := Aside0.mk (blk_below (g := gb137) (o := .cells #[.int .i64 a2_0, .int .i64 a2_1] 42 (0, 0)) (xb BK137.out) hb)
                            have n3_ := Aside0.mk (blk_below (g := gb149) (o := .cells #[.int .i64 0, .int .i64 0, .int .i64 0, .int .i64 0] 85 (0, 0)) (xb BK149.out) hb)
                            have n4_ := Aside0.mk (blk_below (g := gb150) (o := .cells #[.int .i64 0, .int .i64 0, .int .i64 0, .int .i64 0] 85 (0, 0)) (xb BK150.out) hb)
                            have n5_ := Aside0.mk (below_step (xs HB.out) hb)
                            clear BK135
                            clear BK136
                            clear BK137
                            clear BK149
                            clear BK150
                            clear HB
                            have BK135 := n0_
                            have BK136 := n1_
                            have BK137 := n2_
                            have BK149 := n3_
                            have BK150 := n4_
                            have HB := n5_
                            clear n0_ n1_ n2_ n3_ n4_ n5_
                            (try clear hb)
                            (try clear hb2)
                            (try clear hk)
                            (try clear hi)
                            refine hK.out _ _ ⟨(blk_cell BK135.out 0).trans rfl, (blk_cell BK135.out 1).trans rfl, (blk_cell BK137.out 0).trans rfl, (blk_cell BK137.out 1).trans rfl, (blk_cell BK136.out 0).trans rfl, (blk_cell BK136.out 1).trans rfl⟩ (fun hHeld => ?_)
                            clear hK K
                            refine norm_ (a' := ?_) ?_ ?_
                            rotate_left
                            · show Act.put _ (some 35) _ = _
                              simp only [Act.put, List.setIfInBounds_toArray, List.set_cons_zero, List.set_cons_succ, i64_w, i32_w]
                              rfl
                            exact norm_ (by first | (simp only [putAll, Act.put, List.setIfInBounds_toArray, List.set_cons_zero, List.set_cons_succ]; done) | (simp only [putAll, Act.put, List.setIfInBounds_toArray, List.set_cons_zero, List.set_cons_succ]; rfl)) (hJ2_6_7 (gb149, gb150) _ ⟨hHeld, (xb BK135.out), (xb BK136.out), (xb BK137.out), (xb BK149.out), (xb BK150.out), GW149.out, GE149.out, NB135_149.out, NB149_135.out, NB136_149.out, NB149_136.out, NB137_149.out, NB149_137.out, NB150_149.out, NB149_150.out, GW150.out, GE150.out, NB135_150.out, NB150_135.out, NB136_150.out, NB150_136.out, NB137_150.out, NB150_137.out, (xs HB.out)⟩)
                        · skip
                          rintro gb150 w54 ⟨hS_, h0_, h1_, h2_, h3_, h4_, h5_, h6_, h7_, h8_, h9_, h10_, h11_, h12_⟩
                          have n0_ : Aside0 (w54.heap[gb135]? = some (.cells #[.int .i64 a0_0, .int .i64 a0_1] 42 (0, 0))) := ⟨h0_⟩
                          have n1_ : Aside0 (w54.heap[gb136]? = some (.cells #[.int .i64 a1_0, .int .i64 a1_1] 42 (0, 0))) := ⟨h1_⟩
                          have n2_ : Aside0 (w54.heap[gb137]? = some (.cells #[.int .i64 a2_0, .int .i64 a2_1] 42 (0, 0))) := ⟨h2_⟩
                          have n3_ : Aside0 (w54.heap[gb150]? = some (.cells #[.int .i64 0, .int .i64 0, .int .i64 0, .int .i64 0] 85 (0, 0))) := ⟨h3_⟩
                          have n4_ : Aside0 (w.heap.size ≤ gb150) := ⟨h4_⟩
                          have n5_ : Aside0 (w.heap.size ≤ gb150) := ⟨h5_⟩
                          have n6_ : Aside0 (gb135 ≠ gb150) := ⟨h6_⟩
                          have n7_ : Aside0 (gb150 ≠ gb135) := ⟨h7_⟩
                          have n8_ : Aside0 (gb136 ≠ gb150) := ⟨h8_⟩
                          have n9_ : Aside0 (gb150 ≠ gb136) := ⟨h9_⟩
                          have n10_ : Aside0 (gb137 ≠ gb150) := ⟨h10_⟩
                          have n11_ : Aside0 (gb150 ≠ gb137) := ⟨h11_⟩
                          have n12_ : Aside0 (Below w.heap.size w w54) := ⟨h12_⟩
                          clear BK135
                          clear BK136
                          clear BK137
                          clear HB
                          clear h0_ h1_ h2_ h3_ h4_ h5_ h6_ h7_ h8_ h9_ h10_ h11_ h12_
                          have BK135 := n0_
                          have BK136 := n1_
                          have BK137 := n2_
                          have BK150 := n3_
                          have GW150 := n4_
                          have GE150 := n5_
                          have NB135_150 := n6_
                          have NB150_135 := n7_
                          have NB136_150 := n8_
                          have NB150_136 := n9_
                          have NB137_150 := n10_
                          have NB150_137 := n11_
                          have HB := n12_
                          clear n0_ n1_ n2_ n3_ n4_ n5_ n6_ n7_ n8_ n9_ n10_ n11_ n12_
                          have hHeld : w54.cell? ⟨gb135, 0, none⟩ = some (.int .i64 a0_0) ∧ w54.cell? ⟨gb135, 1, none⟩ = some (.int .i64 a0_1) ∧ w54.cell? ⟨gb137, 0, none⟩ = some (.int .i64 a2_0) ∧ w54.cell? ⟨gb137, 1, none⟩ = some (.int .i64 a2_1) ∧ w54.cell? ⟨gb136, 0, none⟩ = some (.int .i64 a1_0) ∧ w54.cell? ⟨gb136, 1, none⟩ = some (.int .i64 a1_1) := hS_
                          refine norm_ (a' := ?_) ?_ ?_
                          rotate_left
                          · simp only [putAll, Act.put, List.setIfInBounds_toArray, List.set_cons_zero, List.set_cons_succ]
                            rfl
                          refine two_ (i := 5) (j := 6) (Ni := some 38) (Nj := some 9) #[true, true, true, true, true, true, false, true, false, false] #[true, true, true, true, true, false, true, true, false, false] rfl rfl rfl rfl (two_of HT_.out (by kernel_rfl)) (by decide) (by decide) (fun K hK => ?_) (fun K hK => ?_)
                          · skip
                            refine goes_ Try.func73 (by kernel_rfl) rfl #[.agg #[.int .i64 a2_0, .int .i64 a2_1], .agg #[.int .i64 a1_0, .int .i64 a1_1]] (by rfl) rfl rfl (by (try simp only [List.map_toArray, List.map_cons, List.map_nil]); first | done | rfl | (simp only [List.length_drop, List.length_take]; rfl)) ?_
                            with_reducible refine (spec_saGap.calls a2_0 a2_1 a1_0 a1_1 t145 t146 t147 t148 _ A49.out).mono ?_
                            rintro e w55 ⟨rfl, hb⟩
                            refine ⟨_, rfl, ?_⟩
                            have n0_ := Aside0.mk (blk_below (g := gb135) (o := .cells #[.int .i64 a0_0, .int .i64 a0_1] 42 (0, 0)) (xb BK135.out) hb)
                            have n1_ := Aside0.mk (blk_below (g := gb136) (o := .cells #[.int .i64 a1_0, .int .i64 a1_1] 42 (0, 0)) (xb BK136.out) hb)
                            have n2_ := Aside0.mk (blk_below (g := gb137) (o := .cells #[.int .i64 a2_0, .int .i64 a2_1] 42 (0, 0)) (xb BK137.out) hb)
                            have n3_ := Aside0.mk (blk_below (g := gb150) (o := .cells #[.int .i64 0, .int .i64 0, .int .i64 0, .int .i64 0] 85 (0, 0)) (xb BK150.out) hb)
                            have n4_ := Aside0.mk (below_step (xs HB.out) hb)
                            clear BK135
                            clear BK136
                            clear BK137
                            clear BK150
                            clear HB
                            have BK135 := n0_
                            have BK136 := n1_
                            have BK137 := n2_
                            have BK150 := n3_
                            have HB := n4_
                            clear n0_ n1_ n2_ n3_ n4_
                            (try clear hb)
                            (try clear hb2)
                            (try clear hk)
                            (try clear hi)
                            refine hK.out _ _ ⟨(blk_cell BK135.out 0).trans rfl, (blk_cell BK135.out 1).trans rfl, (blk_cell BK137.out 0).trans rfl, (blk_cell BK137.out 1).trans rfl, (blk_cell BK136.out 0).trans rfl, (blk_cell BK136.out 1).trans rfl⟩ (fun hHeld => ?_)
                            clear hK K
                            refine norm_ (a' := ?_) ?_ ?_
                            rotate_left
                            · show Act.put _ (some 38) _ = _
                              simp only [Act.put, List.setIfInBounds_toArray, List.set_cons_zero, List.set_cons_succ, i64_w, i32_w]
                              rfl
                            exact norm_ (by first | (simp only [putAll, Act.put, List.setIfInBounds_toArray, List.set_cons_zero, List.set_cons_succ]; done) | (simp only [putAll, Act.put, List.setIfInBounds_toArray, List.set_cons_zero, List.set_cons_succ]; rfl)) (hJ2_5_7 (gb150) _ ⟨hHeld, (xb BK135.out), (xb BK136.out), (xb BK137.out), (xb BK150.out), GW150.out, GE150.out, NB135_150.out, NB150_135.out, NB136_150.out, NB150_136.out, NB137_150.out, NB150_137.out, (xs HB.out)⟩)
                          · skip
                            refine box_step ?hg (N := 9) ?hd (cs := #[.int .i64 0, .int .i64 0, .int .i64 0, .int .i64 0]) (t := 85) ?hr ?_; (case hd => rfl); (case hg => rfl); (case hr => first | (go_simp; done) | (go_simp; rfl))
                            intro gb149 hg w55 hbox hb
                            have n0_ := Aside0.mk (blk_below (g := gb135) (o := .cells #[.int .i64 a0_0, .int .i64 a0_1] 42 (0, 0)) (xb BK135.out) hb)
                            have n1_ := Aside0.mk (blk_below (g := gb136) (o := .cells #[.int .i64 a1_0, .int .i64 a1_1] 42 (0, 0)) (xb BK136.out) hb)
                            have n2_ := Aside0.mk (blk_below (g := gb137) (o := .cells #[.int .i64 a2_0, .int .i64 a2_1] 42 (0, 0)) (xb BK137.out) hb)
                            have n3_ := Aside0.mk (blk_below (g := gb150) (o := .cells #[.int .i64 0, .int .i64 0, .int .i64 0, .int .i64 0] 85 (0, 0)) (xb BK150.out) hb)
                            have n4_ := Aside0.mk (below_step (xs HB.out) hb)
                            have n5_ := Aside0.mk (hbox)
                            have n6_ := Aside0.mk ((by rw [hg]; exact (below_size (xs HB.out)) : w.heap.size ≤ gb149))
                            have n7_ := Aside0.mk ((by rw [hg]; exact (below_size (xs HB.out)) : w.heap.size ≤ gb149))
                            have n8_ := Aside0.mk ((by rw [hg]; exact Nat.ne_of_lt (blk_lt (g := gb135) (o := .cells #[.int .i64 a0_0, .int .i64 a0_1] 42 (0, 0)) (xb BK135.out)) : gb135 ≠ gb149))
                            have n9_ := Aside0.mk ((by rw [hg]; exact Nat.ne_of_gt (blk_lt (g := gb135) (o := .cells #[.int .i64 a0_0, .int .i64 a0_1] 42 (0, 0)) (xb BK135.out)) : gb149 ≠ gb135))
                            have n10_ := Aside0.mk ((by rw [hg]; exact Nat.ne_of_lt (blk_lt (g := gb136) (o := .cells #[.int .i64 a1_0, .int .i64 a1_1] 42 (0, 0)) (xb BK136.out)) : gb136 ≠ gb149))
                            have n11_ := Aside0.mk ((by rw [hg]; exact Nat.ne_of_gt (blk_lt (g := gb136) (o := .cells #[.int .i64 a1_0, .int .i64 a1_1] 42 (0, 0)) (xb BK136.out)) : gb149 ≠ gb136))
                            have n12_ := Aside0.mk ((by rw [hg]; exact Nat.ne_of_lt (blk_lt (g := gb137) (o := .cells #[.int .i64 a2_0, .int .i64 a2_1] 42 (0, 0)) (xb BK137.out)) : gb137 ≠ gb149))
                            have n13_ := Aside0.mk ((by rw [hg]; exact Nat.ne_of_gt (blk_lt (g := gb137) (o := .cells #[.int .i64 a2_0, .int .i64 a2_1] 42 (0, 0)) (xb BK137.out)) : gb149 ≠ gb137))
                            have n14_ := Aside0.mk ((by rw [hg]; exact Nat.ne_of_lt (blk_lt (g := gb150) (o := .cells #[.int .i64 0, .int .i64 0, .int .i64 0, .int .i64 0] 85 (0, 0)) (xb BK150.out)) : gb150 ≠ gb149))
                            have n15_ := Aside0.mk ((by rw [hg]; exact Nat.ne_of_gt (blk_lt (g := gb150) (o := .cells #[.int .i64 0, .int .i64 0, .int .i64 0, .int .i64 0] 85 (0, 0)) (xb BK150.out)) : gb149 ≠ gb150))
                            clear BK135
                            clear BK136
                            clear BK137
                            clear BK150
                            clear HB
                            have BK135 := n0_
                            have BK136 := n1_
                            have BK137 := n2_
                            have BK150 := n3_
                            have HB := n4_
                            have BK149 := n5_
                            have GW149 := n6_
                            have GE149 := n7_
                            have NB135_149 := n8_
                            have NB149_135 := n9_
                            have NB136_149 := n10_
                            have NB149_136 := n11_
                            have NB137_149 := n12_
                            have NB149_137 := n13_
                            have NB150_149 := n14_
                            have NB149_150 := n15_
                            clear n0_ n1_ n2_ n3_ n4_ n5_ n6_ n7_ n8_ n9_ n10_ n11_ n12_ n13_ n14_ n15_
                            clear hb hbox hg
                            refine hK.out _ _ ⟨(blk_cell BK135.out 0).trans rfl, (blk_cell BK135.out 1).trans rfl, (blk_cell BK137.out 0).trans rfl, (blk_cell BK137.out 1).trans rfl, (blk_cell BK136.out 0).trans rfl, (blk_cell BK136.out 1).trans rfl⟩ (fun hHeld => ?_)
                            clear hK K
                            refine norm_ (a' := ?_) ?_ ?_
                            rotate_left
                            · show Act.put _ (some 9) _ = _
                              simp only [Act.put, List.setIfInBounds_toArray, List.set_cons_zero, List.set_cons_succ, i64_w, i32_w]
                              rfl
                            exact norm_ (by first | (simp only [putAll, Act.put, List.setIfInBounds_toArray, List.set_cons_zero, List.set_cons_succ]; done) | (simp only [putAll, Act.put, List.setIfInBounds_toArray, List.set_cons_zero, List.set_cons_succ]; rfl)) (hJ2_6_7 (gb149, gb150) _ ⟨hHeld, (xb BK135.out), (xb BK136.out), (xb BK137.out), (xb BK149.out), (xb BK150.out), GW149.out, GE149.out, NB135_149.out, NB149_135.out, NB136_149.out, NB149_136.out, NB137_149.out, NB149_137.out, NB150_149.out, NB149_150.out, GW150.out, GE150.out, NB135_150.out, NB150_135.out, NB136_150.out, NB150_136.out, NB137_150.out, NB150_137.out, (xs HB.out)⟩)
                      · skip
                        rintro gb149 w54 ⟨hS_, h0_, h1_, h2_, h3_, h4_, h5_, h6_, h7_, h8_, h9_, h10_, h11_, h12_⟩
                        have n0_ : Aside0 (w54.heap[gb135]? = some (.cells #[.int .i64 a0_0, .int .i64 a0_1] 42 (0, 0))) := ⟨h0_⟩
                        have n1_ : Aside0 (w54.heap[gb136]? = some (.cells #[.int .i64 a1_0, .int .i64 a1_1] 42 (0, 0))) := ⟨h1_⟩
                        have n2_ : Aside0 (w54.heap[gb137]? = some (.cells #[.int .i64 a2_0, .int .i64 a2_1] 42 (0, 0))) := ⟨h2_⟩
                        have n3_ : Aside0 (w54.heap[gb149]? = some (.cells #[.int .i64 0, .int .i64 0, .int .i64 0, .int .i64 0] 85 (0, 0))) := ⟨h3_⟩
                        have n4_ : Aside0 (w.heap.size ≤ gb149) := ⟨h4_⟩
                        have n5_ : Aside0 (w.heap.size ≤ gb149) := ⟨h5_⟩
                        have n6_ : Aside0 (gb135 ≠ gb149) := ⟨h6_⟩
                        have n7_ : Aside0 (gb149 ≠ gb135) := ⟨h7_⟩
                        have n8_ : Aside0 (gb136 ≠ gb149) := ⟨h8_⟩
                        have n9_ : Aside0 (gb149 ≠ gb136) := ⟨h9_⟩
                        have n10_ : Aside0 (gb137 ≠ gb149) := ⟨h10_⟩
                        have n11_ : Aside0 (gb149 ≠ gb137) := ⟨h11_⟩
                        have n12_ : Aside0 (Below w.heap.size w w54) := ⟨h12_⟩
                        clear BK135
                        clear BK136
                        clear BK137
                        clear HB
                        clear h0_ h1_ h2_ h3_ h4_ h5_ h6_ h7_ h8_ h9_ h10_ h11_ h12_
                        have BK135 := n0_
                        have BK136 := n1_
                        have BK137 := n2_
                        have BK149 := n3_
                        have GW149 := n4_
                        have GE149 := n5_
                        have NB135_149 := n6_
                        have NB149_135 := n7_
                        have NB136_149 := n8_
                        have NB149_136 := n9_
                        have NB137_149 := n10_
                        have NB149_137 := n11_
                        have HB := n12_
                        clear n0_ n1_ n2_ n3_ n4_ n5_ n6_ n7_ n8_ n9_ n10_ n11_ n12_
                        have hHeld : w54.cell? ⟨gb135, 0, none⟩ = some (.int .i64 a0_0) ∧ w54.cell? ⟨gb135, 1, none⟩ = some (.int .i64 a0_1) ∧ w54.cell? ⟨gb137, 0, none⟩ = some (.int .i64 a2_0) ∧ w54.cell? ⟨gb137, 1, none⟩ = some (.int .i64 a2_1) ∧ w54.cell? ⟨gb136, 0, none⟩ = some (.int .i64 a1_0) ∧ w54.cell? ⟨gb136, 1, none⟩ = some (.int .i64 a1_1) := hS_
                        refine norm_ (a' := ?_) ?_ ?_
                        rotate_left
                        · simp only [putAll, Act.put, List.setIfInBounds_toArray, List.set_cons_zero, List.set_cons_succ]
                          rfl
                        refine two_ (i := 5) (j := 7) (Ni := some 38) (Nj := some 10) #[true, true, true, true, true, true, true, false, false, false] #[true, true, true, true, true, false, true, true, false, false] rfl rfl rfl rfl (two_of HT_.out (by kernel_rfl)) (by decide) (by decide) (fun K hK => ?_) (fun K hK => ?_)
                        · skip
                          refine goes_ Try.func73 (by kernel_rfl) rfl #[.agg #[.int .i64 a2_0, .int .i64 a2_1], .agg #[.int .i64 a1_0, .int .i64 a1_1]] (by rfl) rfl rfl (by (try simp only [List.map_toArray, List.map_cons, List.map_nil]); first | done | rfl | (simp only [List.length_drop, List.length_take]; rfl)) ?_
                          with_reducible refine (spec_saGap.calls a2_0 a2_1 a1_0 a1_1 t145 t146 t147 t148 _ A49.out).mono ?_
                          rintro e w55 ⟨rfl, hb⟩
                          refine ⟨_, rfl, ?_⟩
                          have n0_ := Aside0.mk (blk_below (g := gb135) (o := .cells #[.int .i64 a0_0, .int .i64 a0_1] 42 (0, 0)) (xb BK135.out) hb)
                          have n1_ := Aside0.mk (blk_below (g := gb136) (o := .cells #[.int .i64 a1_0, .int .i64 a1_1] 42 (0, 0)) (xb BK136.out) hb)
                          have n2_ := Aside0.mk (blk_below (g := gb137) (o := .cells #[.int .i64 a2_0, .int .i64 a2_1] 42 (0, 0)) (xb BK137.out) hb)
                          have n3_ := Aside0.mk (blk_below (g := gb149) (o := .cells #[.int .i64 0, .int .i64 0, .int .i64 0, .int .i64 0] 85 (0, 0)) (xb BK149.out) hb)
                          have n4_ := Aside0.mk (below_step (xs HB.out) hb)
                          clear BK135
                          clear BK136
                          clear BK137
                          clear BK149
                          clear HB
                          have BK135 := n0_
                          have BK136 := n1_
                          have BK137 := n2_
                          have BK149 := n3_
                          have HB := n4_
                          clear n0_ n1_ n2_ n3_ n4_
                          (try clear hb)
                          (try clear hb2)
                          (try clear hk)
                          (try clear hi)
                          refine hK.out _ _ ⟨(blk_cell BK135.out 0).trans rfl, (blk_cell BK135.out 1).trans rfl, (blk_cell BK137.out 0).trans rfl, (blk_cell BK137.out 1).trans rfl, (blk_cell BK136.out 0).trans rfl, (blk_cell BK136.out 1).trans rfl⟩ (fun hHeld => ?_)
                          clear hK K
                          refine norm_ (a' := ?_) ?_ ?_
                          rotate_left
                          · show Act.put _ (some 38) _ = _
                            simp only [Act.put, List.setIfInBounds_toArray, List.set_cons_zero, List.set_cons_succ, i64_w, i32_w]
                            rfl
                          exact norm_ (by first | (simp only [putAll, Act.put, List.setIfInBounds_toArray, List.set_cons_zero, List.set_cons_succ]; done) | (simp only [putAll, Act.put, List.setIfInBounds_toArray, List.set_cons_zero, List.set_cons_succ]; rfl)) (hJ2_5_6 (gb149) _ ⟨hHeld, (xb BK135.out), (xb BK136.out), (xb BK137.out), (xb BK149.out), GW149.out, GE149.out, NB135_149.out, NB149_135.out, NB136_149.out, NB149_136.out, NB137_149.out, NB149_137.out, (xs HB.out)⟩)
                        · skip
                          refine box_step ?hg (N := 10) ?hd (cs := #[.int .i64 0, .int .i64 0, .int .i64 0, .int .i64 0]) (t := 85) ?hr ?_; (case hd => rfl); (case hg => rfl); (case hr => first | (go_simp; done) | (go_simp; rfl))
                          intro gb150 hg w55 hbox hb
                          have n0_ := Aside0.mk (blk_below (g := gb135) (o := .cells #[.int .i64 a0_0, .int .i64 a0_1] 42 (0, 0)) (xb BK135.out) hb)
                          have n1_ := Aside0.mk (blk_below (g := gb136) (o := .cells #[.int .i64 a1_0, .int .i64 a1_1] 42 (0, 0)) (xb BK136.out) hb)
                          have n2_ := Aside0.mk (blk_below (g := gb137) (o := .cells #[.int .i64 a2_0, .int .i64 a2_1] 42 (0, 0)) (xb BK137.out) hb)
                          have n3_ := Aside0.mk (blk_below (g := gb149) (o := .cells #[.int .i64 0, .int .i64 0, .int .i64 0, .int .i64 0] 85 (0, 0)) (xb BK149.out) hb)
                          have n4_ := Aside0.mk (below_step (xs HB.out) hb)
                          have n5_ := Aside0.mk (hbox)
                          have n6_ := Aside0.mk ((by rw [hg]; exact (below_size (xs HB.out)) : w.heap.size ≤ gb150))
                          have n7_ := Aside0.mk ((by rw [hg]; exact (below_size (xs HB.out)) : w.heap.size ≤ gb150))
                          have n8_ := Aside0.mk ((by rw [hg]; exact Nat.ne_of_lt (blk_lt (g := gb135) (o := .cells #[.int .i64 a0_0, .int .i64 a0_1] 42 (0, 0)) (xb BK135.out)) : gb135 ≠ gb150))
                          have n9_ := Aside0.mk ((by rw [hg]; exact Nat.ne_of_gt (blk_lt (g := gb135) (o := .cells #[.int .i64 a0_0, .int .i64 a0_1] 42 (0, 0)) (xb BK135.out)) : gb150 ≠ gb135))
                          have n10_ := Aside0.mk ((by rw [hg]; exact Nat.ne_of_lt (blk_lt (g := gb136) (o := .cells #[.int .i64 a1_0, .int .i64 a1_1] 42 (0, 0)) (xb BK136.out)) : gb136 ≠ gb150))
                          have n11_ := Aside0.mk ((by rw [hg]; exact Nat.ne_of_gt (blk_lt (g := gb136) (o := .cells #[.int .i64 a1_0, .int .i64 a1_1] 42 (0, 0)) (xb BK136.out)) : gb150 ≠ gb136))
                          have n12_ := Aside0.mk ((by rw [hg]; exact Nat.ne_of_lt (blk_lt (g := gb137) (o := .cells #[.int .i64 a2_0, .int .i64 a2_1] 42 (0, 0)) (xb BK137.out)) : gb137 ≠ gb150))
                          have n13_ := Aside0.mk ((by rw [hg]; exact Nat.ne_of_gt (blk_lt (g := gb137) (o := .cells #[.int .i64 a2_0, .int .i64 a2_1] 42 (0, 0)) (xb BK137.out)) : gb150 ≠ gb137))
                          have n14_ := Aside0.mk ((by rw [hg]; exact Nat.ne_of_lt (blk_lt (g := gb149) (o := .cells #[.int .i64 0, .int .i64 0, .int .i64 0, .int .i64 0] 85 (0, 0)) (xb BK149.out)) : gb149 ≠ gb150))
                          have n15_ := Aside0.mk ((by rw [hg]; exact Nat.ne_of_gt (blk_lt (g := gb149) (o := .cells #[.int .i64 0, .int .i64 0, .int .i64 0, .int .i64 0] 85 (0, 0)) (xb BK149.out)) : gb150 ≠ gb149))
                          clear BK135
                          clear BK136
                          clear BK137
                          clear BK149
                          clear HB
                          have BK135 := n0_
                          have BK136 := n1_
                          have BK137 := n2_
                          have BK149 := n3_
                          have HB := n4_
                          have BK150 := n5_
                          have GW150 := n6_
                          have GE150 := n7_
                          have NB135_150 := n8_
                          have NB150_135 := n9_
                          have NB136_150 := n10_
                          have NB150_136 := n11_
                          have NB137_150 := n12_
                          have NB150_137 := n13_
                          have NB149_150 := n14_
                          have NB150_149 := n15_
                          clear n0_ n1_ n2_ n3_ n4_ n5_ n6_ n7_ n8_ n9_ n10_ n11_ n12_ n13_ n14_ n15_
                          clear hb hbox hg
                          refine hK.out _ _ ⟨(blk_cell BK135.out 0).trans rfl, (blk_cell BK135.out 1).trans rfl, (blk_cell BK137.out 0).trans rfl, (blk_cell BK137.out 1).trans rfl, (blk_cell BK136.out 0).trans rfl, (blk_cell BK136.out 1).trans rfl⟩ (fun hHeld => ?_)
                          clear hK K
                          refine norm_ (a' := ?_) ?_ ?_
                          rotate_left
                          · show Act.put _ (some 10) _ = _
                            simp only [Act.put, List.setIfInBounds_toArray, List.set_cons_zero, List.set_cons_succ, i64_w, i32_w]
                            rfl
                          exact norm_ (by first | (simp only [putAll, Act.put, List.setIfInBounds_toArray, List.set_cons_zero, List.set_cons_succ]; done) | (simp only [putAll, Act.put, List.setIfInBounds_toArray, List.set_cons_zero, List.set_cons_succ]; rfl)) (hJ2_6_7 (gb149, gb150) _ ⟨hHeld, (xb BK135.out), (xb BK136.out), (xb BK137.out), (xb BK149.out), (xb BK150.out), GW149.out, GE149.out, NB135_149.out, NB149_135.out, NB136_149.out, NB149_136.out, NB137_149.out, NB149_137.out, NB150_149.out, NB149_150.out, GW150.out, GE150.out, NB135_150.out, NB150_135.out, NB136_150.out, NB150_136.out, NB137_150.out, NB150_137.out, (xs HB.out)⟩)
                    · skip
                      rintro _ w54 ⟨hS_, h0_, h1_, h2_, h3_⟩
                      have n0_ : Aside0 (w54.heap[gb135]? = some (.cells #[.int .i64 a0_0, .int .i64 a0_1] 42 (0, 0))) := ⟨h0_⟩
                      have n1_ : Aside0 (w54.heap[gb136]? = some (.cells #[.int .i64 a1_0, .int .i64 a1_1] 42 (0, 0))) := ⟨h1_⟩
                      have n2_ : Aside0 (w54.heap[gb137]? = some (.cells #[.int .i64 a2_0, .int .i64 a2_1] 42 (0, 0))) := ⟨h2_⟩
                      have n3_ : Aside0 (Below w.heap.size w w54) := ⟨h3_⟩
                      clear BK135
                      clear BK136
                      clear BK137
                      clear HB
                      clear h0_ h1_ h2_ h3_
                      have BK135 := n0_
                      have BK136 := n1_
                      have BK137 := n2_
                      have HB := n3_
                      clear n0_ n1_ n2_ n3_
                      have hHeld : w54.cell? ⟨gb135, 0, none⟩ = some (.int .i64 a0_0) ∧ w54.cell? ⟨gb135, 1, none⟩ = some (.int .i64 a0_1) ∧ w54.cell? ⟨gb137, 0, none⟩ = some (.int .i64 a2_0) ∧ w54.cell? ⟨gb137, 1, none⟩ = some (.int .i64 a2_1) ∧ w54.cell? ⟨gb136, 0, none⟩ = some (.int .i64 a1_0) ∧ w54.cell? ⟨gb136, 1, none⟩ = some (.int .i64 a1_1) := hS_
                      refine norm_ (a' := ?_) ?_ ?_
                      rotate_left
                      · simp only [putAll, Act.put, List.setIfInBounds_toArray, List.set_cons_zero, List.set_cons_succ]
                        rfl
                      refine two_ (i := 6) (j := 7) (Ni := some 9) (Nj := some 10) #[true, true, true, true, true, true, true, false, false, false] #[true, true, true, true, true, true, false, true, false, false] rfl rfl rfl rfl (two_of HT_.out (by kernel_rfl)) (by decide) (by decide) (fun K hK => ?_) (fun K hK => ?_)
                      · skip
                        refine box_step ?hg (N := 9) ?hd (cs := #[.int .i64 0, .int .i64 0, .int .i64 0, .int .i64 0]) (t := 85) ?hr ?_; (case hd => rfl); (case hg => rfl); (case hr => first | (go_simp; done) | (go_simp; rfl))
                        intro gb149 hg w55 hbox hb
                        have n0_ := Aside0.mk (blk_below (g := gb135) (o := .cells #[.int .i64 a0_0, .int .i64 a0_1] 42 (0, 0)) (xb BK135.out) hb)
                        have n1_ := Aside0.mk (blk_below (g := gb136) (o := .cells #[.int .i64 a1_0, .int .i64 a1_1] 42 (0, 0)) (xb BK136.out) hb)
                        have n2_ := Aside0.mk (blk_below (g := gb137) (o := .cells #[.int .i64 a2_0, .int .i64 a2_1] 42 (0, 0)) (xb BK137.out) hb)
                        have n3_ := Aside0.mk (below_step (xs HB.out) hb)
                        have n4_ := Aside0.mk (hbox)
                        have n5_ := Aside0.mk ((by rw [hg]; exact (below_size (xs HB.out)) : w.heap.size ≤ gb149))
                        have n6_ := Aside0.mk ((by rw [hg]; exact (below_size (xs HB.out)) : w.heap.size ≤ gb149))
                        have n7_ := Aside0.mk ((by rw [hg]; exact Nat.ne_of_lt (blk_lt (g := gb135) (o := .cells #[.int .i64 a0_0, .int .i64 a0_1] 42 (0, 0)) (xb BK135.out)) : gb135 ≠ gb149))
                        have n8_ := Aside0.mk ((by rw [hg]; exact Nat.ne_of_gt (blk_lt (g := gb135) (o := .cells #[.int .i64 a0_0, .int .i64 a0_1] 42 (0, 0)) (xb BK135.out)) : gb149 ≠ gb135))
                        have n9_ := Aside0.mk ((by rw [hg]; exact Nat.ne_of_lt (blk_lt (g := gb136) (o := .cells #[.int .i64 a1_0, .int .i64 a1_1] 42 (0, 0)) (xb BK136.out)) : gb136 ≠ gb149))
                        have n10_ := Aside0.mk ((by rw [hg]; exact Nat.ne_of_gt (blk_lt (g := gb136) (o := .cells #[.int .i64 a1_0, .int .i64 a1_1] 42 (0, 0)) (xb BK136.out)) : gb149 ≠ gb136))
                        have n11_ := Aside0.mk ((by rw [hg]; exact Nat.ne_of_lt (blk_lt (g := gb137) (o := .cells #[.int .i64 a2_0, .int .i64 a2_1] 42 (0, 0)) (xb BK137.out)) : gb137 ≠ gb149))
                        have n12_ := Aside0.mk ((by rw [hg]; exact Nat.ne_of_gt (blk_lt (g := gb137) (o := .cells #[.int .i64 a2_0, .int .i64 a2_1] 42 (0, 0)) (xb BK137.out)) : gb149 ≠ gb137))
                        clear BK135
                        clear BK136
                        clear BK137
                        clear HB
                        have BK135 := n0_
                        have BK136 := n1_
                        have BK137 := n2_
                        have HB := n3_
                        have BK149 := n4_
                        have GW149 := n5_
                        have GE149 := n6_
                        have NB135_149 := n7_
                        have NB149_135 := n8_
                        have NB136_149 := n9_
                        have NB149_136 := n10_
                        have NB137_149 := n11_
                        have NB149_137 := n12_
                        clear n0_ n1_ n2_ n3_ n4_ n5_ n6_ n7_ n8_ n9_ n10_ n11_ n12_
                        clear hb hbox hg
                        refine hK.out _ _ ⟨(blk_cell BK135.out 0).trans rfl, (blk_cell BK135.out 1).trans rfl, (blk_cell BK137.out 0).trans rfl, (blk_cell BK137.out 1).trans rfl, (blk_cell BK136.out 0).trans rfl, (blk_cell BK136.out 1).trans rfl⟩ (fun hHeld => ?_)
                        clear hK K
                        refine norm_ (a' := ?_) ?_ ?_
                        rotate_left
                        · show Act.put _ (some 9) _ = _
                          simp only [Act.put, List.setIfInBounds_toArray, List.set_cons_zero, List.set_cons_succ, i64_w, i32_w]
                          rfl
                        exact norm_ (by first | (simp only [putAll, Act.put, List.setIfInBounds_toArray, List.set_cons_zero, List.set_cons_succ]; done) | (simp only [putAll, Act.put, List.setIfInBounds_toArray, List.set_cons_zero, List.set_cons_succ]; rfl)) (hJ2_5_6 (gb149) _ ⟨hHeld, (xb BK135.out), (xb BK136.out), (xb BK137.out), (xb BK149.out), GW149.out, GE149.out, NB135_149.out, NB149_135.out, NB136_149.out, NB149_136.out, NB137_149.out, NB149_137.out, (xs HB.out)⟩)
                      · skip
                        refine box_step ?hg (N := 10) ?hd (cs := #[.int .i64 0, .int .i64 0, .int .i64 0, .int .i64 0]) (t := 85) ?hr ?_; (case hd => rfl); (case hg => rfl); (case hr => first | (go_simp; done) | (go_simp; rfl))
                        intro gb150 hg w55 hbox hb
                        have n0_ := Aside0.mk (blk_below (g := gb135) (o := .cells #[.int .i64 a0_0, .int .i64 a0_1] 42 (0, 0)) (xb BK135.out) hb)
                        have n1_ := Aside0.mk (blk_below (g := gb136) (o := .cells #[.int .i64 a1_0, .int .i64 a1_1] 42 (0, 0)) (xb BK136.out) hb)
                        have n2_ := Aside0.mk (blk_below (g := gb137) (o := .cells #[.int .i64 a2_0, .int .i64 a2_1] 42 (0, 0)) (xb BK137.out) hb)
                        have n3_ := Aside0.mk (below_step (xs HB.out) hb)
                        have n4_ := Aside0.mk (hbox)
                        have n5_ := Aside0.mk ((by rw [hg]; exact (below_size (xs HB.out)) : w.heap.size ≤ gb150))
                        have n6_ := Aside0.mk ((by rw [hg]; exact (below_size (xs HB.out)) : w.heap.size ≤ gb150))
                        have n7_ := Aside0.mk ((by rw [hg]; exact Nat.ne_of_lt (blk_lt (g := gb135) (o := .cells #[.int .i64 a0_0, .int .i64 a0_1] 42 (0, 0)) (xb BK135.out)) : gb135 ≠ gb150))
                        have n8_ := Aside0.mk ((by rw [hg]; exact Nat.ne_of_gt (blk_lt (g := gb135) (o := .cells #[.int .i64 a0_0, .int .i64 a0_1] 42 (0, 0)) (xb BK135.out)) : gb150 ≠ gb135))
                        have n9_ := Aside0.mk ((by rw [hg]; exact Nat.ne_of_lt (blk_lt (g := gb136) (o := .cells #[.int .i64 a1_0, .int .i64 a1_1] 42 (0, 0)) (xb BK136.out)) : gb136 ≠ gb150))
                        have n10_ := Aside0.mk ((by rw [hg]; exact Nat.ne_of_gt (blk_lt (g := gb136) (o := .cells #[.int .i64 a1_0, .int .i64 a1_1] 42 (0, 0)) (xb BK136.out)) : gb150 ≠ gb136))
                        have n11_ := Aside0.mk ((by rw [hg]; exact Nat.ne_of_lt (blk_lt (g := gb137) (o := .cells #[.int .i64 a2_0, .int .i64 a2_1] 42 (0, 0)) (xb BK137.out)) : gb137 ≠ gb150))
                        have n12_ := Aside0.mk ((by rw [hg]; exact Nat.ne_of_gt (blk_lt (g := gb137) (o := .cells #[.int .i64 a2_0, .int .i64 a2_1] 42 (0, 0)) (xb BK137.out)) : gb150 ≠ gb137))
                        clear BK135
                        clear BK136
                        clear BK137
                        clear HB
                        have BK135 := n0_
                        have BK136 := n1_
                        have BK137 := n2_
                        have HB := n3_
                        have BK150 := n4_
                        have GW150 := n5_
                        have GE150 := n6_
                        have NB135_150 := n7_
                        have NB150_135 := n8_
                        have NB136_150 := n9_
                        have NB150_136 := n10_
                        have NB137_150 := n11_
                        have NB150_137 := n12_
                        clear n0_ n1_ n2_ n3_ n4_ n5_ n6_ n7_ n8_ n9_ n10_ n11_ n12_
                        clear hb hbox hg
                        refine hK.out _ _ ⟨(blk_cell BK135.out 0).trans rfl, (blk_cell BK135.out 1).trans rfl, (blk_cell BK137.out 0).trans rfl, (blk_cell BK137.out 1).trans rfl, (blk_cell BK136.out 0).trans rfl, (blk_cell BK136.out 1).trans rfl⟩ (fun hHeld => ?_)
                        clear hK K
                        refine norm_ (a' := ?_) ?_ ?_
                        rotate_left
                        · show Act.put _ (some 10) _ = _
                          simp only [Act.put, List.setIfInBounds_toArray, List.set_cons_zero, List.set_cons_succ, i64_w, i32_w]
                          rfl
                        exact norm_ (by first | (simp only [putAll, Act.put, List.setIfInBounds_toArray, List.set_cons_zero, List.set_cons_succ]; done) | (simp only [putAll, Act.put, List.setIfInBounds_toArray, List.set_cons_zero, List.set_cons_succ]; rfl)) (hJ2_5_7 (gb150) _ ⟨hHeld, (xb BK135.out), (xb BK136.out), (xb BK137.out), (xb BK150.out), GW150.out, GE150.out, NB135_150.out, NB150_135.out, NB136_150.out, NB150_136.out, NB137_150.out, NB150_137.out, (xs HB.out)⟩)
                  · skip
                    rintro ⟨gb149, gb150⟩ w55 ⟨hS_, h0_, h1_, h2_, h3_, h4_, h5_, h6_, h7_, h8_, h9_, h10_, h11_, h12_, h13_, h14_, h15_, h16_, h17_, h18_, h19_, h20_, h21_, h22_, h23_⟩
                    have n0_ : Aside0 (w55.heap[gb135]? = some (.cells #[.int .i64 a0_0, .int .i64 a0_1] 42 (0, 0))) := ⟨h0_⟩
                    have n1_ : Aside0 (w55.heap[gb136]? = some (.cells #[.int .i64 a1_0, .int .i64 a1_1] 42 (0, 0))) := ⟨h1_⟩
                    have n2_ : Aside0 (w55.heap[gb137]? = some (.cells #[.int .i64 a2_0, .int .i64 a2_1] 42 (0, 0))) := ⟨h2_⟩
                    have n3_ : Aside0 (w55.heap[gb149]? = some (.cells #[.int .i64 0, .int .i64 0, .int .i64 0, .int .i64 0] 85 (0, 0))) := ⟨h3_⟩
                    have n4_ : Aside0 (w55.heap[gb150]? = some (.cells #[.int .i64 0, .int .i64 0, .int .i64 0, .int .i64 0] 85 (0, 0))) := ⟨h4_⟩
                    have n5_ : Aside0 (w.heap.size ≤ gb149) := ⟨h5_⟩
                    have n6_ : Aside0 (w.heap.size ≤ gb149) := ⟨h6_⟩
                    have n7_ : Aside0 (gb135 ≠ gb149) := ⟨h7_⟩
                    have n8_ : Aside0 (gb149 ≠ gb135) := ⟨h8_⟩
                    have n9_ : Aside0 (gb136 ≠ gb149) := ⟨h9_⟩
                    have n10_ : Aside0 (gb149 ≠ gb136) := ⟨h10_⟩
                    have n11_ : Aside0 (gb137 ≠ gb149) := ⟨h11_⟩
                    have n12_ : Aside0 (gb149 ≠ gb137) := ⟨h12_⟩
                    have n13_ : Aside0 (gb150 ≠ gb149) := ⟨h13_⟩
                    have n14_ : Aside0 (gb149 ≠ gb150) := ⟨h14_⟩
                    have n15_ : Aside0 (w.heap.size ≤ gb150) := ⟨h15_⟩
                    have n16_ : Aside0 (w.heap.size ≤ gb150) := ⟨h16_⟩
                    have n17_ : Aside0 (gb135 ≠ gb150) := ⟨h17_⟩
                    have n18_ : Aside0 (gb150 ≠ gb135) := ⟨h18_⟩
                    have n19_ : Aside0 (gb136 ≠ gb150) := ⟨h19_⟩
                    have n20_ : Aside0 (gb150 ≠ gb136) := ⟨h20_⟩
                    have n21_ : Aside0 (gb137 ≠ gb150) := ⟨h21_⟩
                    have n22_ : Aside0 (gb150 ≠ gb137) := ⟨h22_⟩
                    have n23_ : Aside0 (Below w.heap.size w w55) := ⟨h23_⟩
                    clear BK135
                    clear BK136
                    clear BK137
                    clear HB
                    clear h0_ h1_ h2_ h3_ h4_ h5_ h6_ h7_ h8_ h9_ h10_ h11_ h12_ h13_ h14_ h15_ h16_ h17_ h18_ h19_ h20_ h21_ h22_ h23_
                    have BK135 := n0_
                    have BK136 := n1_
                    have BK137 := n2_
                    have BK149 := n3_
                    have BK150 := n4_
                    have GW149 := n5_
                    have GE149 := n6_
                    have NB135_149 := n7_
                    have NB149_135 := n8_
                    have NB136_149 := n9_
                    have NB149_136 := n10_
                    have NB137_149 := n11_
                    have NB149_137 := n12_
                    have NB150_149 := n13_
                    have NB149_150 := n14_
                    have GW150 := n15_
                    have GE150 := n16_
                    have NB135_150 := n17_
                    have NB150_135 := n18_
                    have NB136_150 := n19_
                    have NB150_136 := n20_
                    have NB137_150 := n21_
                    have NB150_137 := n22_
                    have HB := n23_
                    clear n0_ n1_ n2_ n3_ n4_ n5_ n6_ n7_ n8_ n9_ n10_ n11_ n12_ n13_ n14_ n15_ n16_ n17_ n18_ n19_ n20_ n21_ n22_ n23_
                    have hHeld : w55.cell? ⟨gb135, 0, none⟩ = some (.int .i64 a0_0) ∧ w55.cell? ⟨gb135, 1, none⟩ = some (.int .i64 a0_1) ∧ w55.cell? ⟨gb137, 0, none⟩ = some (.int .i64 a2_0) ∧ w55.cell? ⟨gb137, 1, none⟩ = some (.int .i64 a2_1) ∧ w55.cell? ⟨gb136, 0, none⟩ = some (.int .i64 a1_0) ∧ w55.cell? ⟨gb136, 1, none⟩ = some (.int .i64 a1_1) := hS_
                    refine norm_ (a' := ?_) ?_ ?_
                    rotate_left
                    · simp only [putAll, Act.put, List.setIfInBounds_toArray, List.set_cons_zero, List.set_cons_succ]
                      rfl
                    refine one_ (i := 5) (N := some 38) #[true, true, true, true, true, true, true, true, false, false] rfl rfl (one_of HT_.out (by kernel_rfl)) (by decide) (fun K hK => ?_)
                    refine goes_ Try.func73 (by kernel_rfl) rfl #[.agg #[.int .i64 a2_0, .int .i64 a2_1], .agg #[.int .i64 a1_0, .int .i64 a1_1]] (by rfl) rfl rfl (by (try simp only [List.map_toArray, List.map_cons, List.map_nil]); first | done | rfl | (simp only [List.length_drop, List.length_take]; rfl)) ?_
                    with_reducible refine (spec_saGap.calls a2_0 a2_1 a1_0 a1_1 t145 t146 t147 t148 _ A49.out).mono ?_
                    rintro e w56 ⟨rfl, hb⟩
                    refine ⟨_, rfl, ?_⟩
                    have n0_ := Aside0.mk (blk_below (g := gb135) (o := .cells #[.int .i64 a0_0, .int .i64 a0_1] 42 (0, 0)) (xb BK135.out) hb)
                    have n1_ := Aside0.mk (blk_below (g := gb136) (o := .cells #[.int .i64 a1_0, .int .i64 a1_1] 42 (0, 0)) (xb BK136.out) hb)
                    have n2_ := Aside0.mk (blk_below (g := gb137) (o := .cells #[.int .i64 a2_0, .int .i64 a2_1] 42 (0, 0)) (xb BK137.out) hb)
                    have n3_ := Aside0.mk (blk_below (g := gb149) (o := .cells #[.int .i64 0, .int .i64 0, .int .i64 0, .int .i64 0] 85 (0, 0)) (xb BK149.out) hb)
                    have n4_ := Aside0.mk (blk_below (g := gb150) (o := .cells #[.int .i64 0, .int .i64 0, .int .i64 0, .int .i64 0] 85 (0, 0)) (xb BK150.out) hb)
                    have n5_ := Aside0.mk (below_step (xs HB.out) hb)
                    clear BK135
                    clear BK136
                    clear BK137
                    clear BK149
                    clear BK150
                    clear HB
                    have BK135 := n0_
                    have BK136 := n1_
                    have BK137 := n2_
                    have BK149 := n3_
                    have BK150 := n4_
                    have HB := n5_
                    clear n0_ n1_ n2_ n3_ n4_ n5_
                    (try clear hb)
                    (try clear hb2)
                    (try clear hk)
                    (try clear hi)
                    refine hK.out _ _ ⟨(blk_cell BK135.out 0).trans rfl, (blk_cell BK135.out 1).trans rfl, (blk_cell BK137.out 0).trans rfl, (blk_cell BK137.out 1).trans rfl, (blk_cell BK136.out 0).trans rfl, (blk_cell BK136.out 1).trans rfl⟩ (fun hHeld => ?_)
                    clear hK K
                    refine norm_ (a' := ?_) ?_ ?_
                    rotate_left
                    · show Act.put _ (some 38) _ = _
                      simp only [Act.put, List.setIfInBounds_toArray, List.set_cons_zero, List.set_cons_succ, i64_w, i32_w]
                      rfl
                    exact norm_ (by first | (simp only [putAll, Act.put, List.setIfInBounds_toArray, List.set_cons_zero, List.set_cons_succ]; done) | (simp only [putAll, Act.put, List.setIfInBounds_toArray, List.set_cons_zero, List.set_cons_succ]; rfl)) (hJ2_5_6_7 (gb149, gb150) _ ⟨hHeld, (xb BK135.out), (xb BK136.out), (xb BK137.out), (xb BK149.out), (xb BK150.out), GW149.out, GE149.out, NB135_149.out, NB149_135.out, NB136_149.out, NB149_136.out, NB137_149.out, NB149_137.out, NB150_149.out, NB149_150.out, GW150.out, GE150.out, NB135_150.out, NB150_135.out, NB136_150.out, NB150_136.out, NB137_150.out, NB150_137.out, (xs HB.out)⟩)
                · skip
                  rintro gb150 w55 ⟨hS_, h0_, h1_, h2_, h3_, h4_, h5_, h6_, h7_, h8_, h9_, h10_, h11_, h12_⟩
                  have n0_ : Aside0 (w55.heap[gb135]? = some (.cells #[.int .i64 a0_0, .int .i64 a0_1] 42 (0, 0))) := ⟨h0_⟩
                  have n1_ : Aside0 (w55.heap[gb136]? = some (.cells #[.int .i64 a1_0, .int .i64 a1_1] 42 (0, 0))) := ⟨h1_⟩
                  have n2_ : Aside0 (w55.heap[gb137]? = some (.cells #[.int .i64 a2_0, .int .i64 a2_1] 42 (0, 0))) := ⟨h2_⟩
                  have n3_ : Aside0 (w55.heap[gb150]? = some (.cells #[.int .i64 0, .int .i64 0, .int .i64 0, .int .i64 0] 85 (0, 0))) := ⟨h3_⟩
                  have n4_ : Aside0 (w.heap.size ≤ gb150) := ⟨h4_⟩
                  have n5_ : Aside0 (w.heap.size ≤ gb150) := ⟨h5_⟩
                  have n6_ : Aside0 (gb135 ≠ gb150) := ⟨h6_⟩
                  have n7_ : Aside0 (gb150 ≠ gb135) := ⟨h7_⟩
                  have n8_ : Aside0 (gb136 ≠ gb150) := ⟨h8_⟩
                  have n9_ : Aside0 (gb150 ≠ gb136) := ⟨h9_⟩
                  have n10_ : Aside0 (gb137 ≠ gb150) := ⟨h10_⟩
                  have n11_ : Aside0 (gb150 ≠ gb137) := ⟨h11_⟩
                  have n12_ : Aside0 (Below w.heap.size w w55) := ⟨h12_⟩
                  clear BK135
                  clear BK136
                  clear BK137
                  clear HB
                  clear h0_ h1_ h2_ h3_ h4_ h5_ h6_ h7_ h8_ h9_ h10_ h11_ h12_
                  have BK135 := n0_
                  have BK136 := n1_
                  have BK137 := n2_
                  have BK150 := n3_
                  have GW150 := n4_
                  have GE150 := n5_
                  have NB135_150 := n6_
                  have NB150_135 := n7_
                  have NB136_150 := n8_
                  have NB150_136 := n9_
                  have NB137_150 := n10_
                  have NB150_137 := n11_
                  have HB := n12_
                  clear n0_ n1_ n2_ n3_ n4_ n5_ n6_ n7_ n8_ n9_ n10_ n11_ n12_
                  have hHeld : w55.cell? ⟨gb135, 0, none⟩ = some (.int .i64 a0_0) ∧ w55.cell? ⟨gb135, 1, none⟩ = some (.int .i64 a0_1) ∧ w55.cell? ⟨gb137, 0, none⟩ = some (.int .i64 a2_0) ∧ w55.cell? ⟨gb137, 1, none⟩ = some (.int .i64 a2_1) ∧ w55.cell? ⟨gb136, 0, none⟩ = some (.int .i64 a1_0) ∧ w55.cell? ⟨gb136, 1, none⟩ = some (.int .i64 a1_1) := hS_
                  refine norm_ (a' := ?_) ?_ ?_
                  rotate_left
                  · simp only [putAll, Act.put, List.setIfInBounds_toArray, List.set_cons_zero, List.set_cons_succ]
                    rfl
                  refine one_ (i := 6) (N := some 9) #[true, true, true, true, true, true, true, true, false, false] rfl rfl (one_of HT_.out (by kernel_rfl)) (by decide) (fun K hK => ?_)
                  refine box_step ?hg (N := 9) ?hd (cs := #[.int .i64 0, .int .i64 0, .int .i64 0, .int .i64 0]) (t := 85) ?hr ?_; (case hd => rfl); (case hg => rfl); (case hr => first | (go_simp; done) | (go_simp; rfl))
                  intro gb149 hg w56 hbox hb
                  have n0_ := Aside0.mk (blk_below (g := gb135) (o := .cells #[.int .i64 a0_0, .int .i64 a0_1] 42 (0, 0)) (xb BK135.out) hb)
                  have n1_ := Aside0.mk (blk_below (g := gb136) (o := .cells #[.int .i64 a1_0, .int .i64 a1_1] 42 (0, 0)) (xb BK136.out) hb)
                  have n2_ := Aside0.mk (blk_below (g := gb137) (o := .cells #[.int .i64 a2_0, .int .i64 a2_1] 42 (0, 0)) (xb BK137.out) hb)
                  have n3_ := Aside0.mk (blk_below (g := gb150) (o := .cells #[.int .i64 0, .int .i64 0, .int .i64 0, .int .i64 0] 85 (0, 0)) (xb BK150.out) hb)
                  have n4_ := Aside0.mk (below_step (xs HB.out) hb)
                  have n5_ := Aside0.mk (hbox)
                  have n6_ := Aside0.mk ((by rw [hg]; exact (below_size (xs HB.out)) : w.heap.size ≤ gb149))
                  have n7_ := Aside0.mk ((by rw [hg]; exact (below_size (xs HB.out)) : w.heap.size ≤ gb149))
                  have n8_ := Aside0.mk ((by rw [hg]; exact Nat.ne_of_lt (blk_lt (g := gb135) (o := .cells #[.int .i64 a0_0, .int .i64 a0_1] 42 (0, 0)) (xb BK135.out)) : gb135 ≠ gb149))
                  have n9_ := Aside0.mk ((by rw [hg]; exact Nat.ne_of_gt (blk_lt (g := gb135) (o := .cells #[.int .i64 a0_0, .int .i64 a0_1] 42 (0, 0)) (xb BK135.out)) : gb149 ≠ gb135))
                  have n10_ := Aside0.mk ((by rw [hg]; exact Nat.ne_of_lt (blk_lt (g := gb136) (o := .cells #[.int .i64 a1_0, .int .i64 a1_1] 42 (0, 0)) (xb BK136.out)) : gb136 ≠ gb149))
                  have n11_ := Aside0.mk ((by rw [hg]; exact Nat.ne_of_gt (blk_lt (g := gb136) (o := .cells #[.int .i64 a1_0, .int .i64 a1_1] 42 (0, 0)) (xb BK136.out)) : gb149 ≠ gb136))
                  have n12_ := Aside0.mk ((by rw [hg]; exact Nat.ne_of_lt (blk_lt (g := gb137) (o := .cells #[.int .i64 a2_0, .int .i64 a2_1] 42 (0, 0)) (xb BK137.out)) : gb137 ≠ gb149))
                  have n13_ := Aside0.mk ((by rw [hg]; exact Nat.ne_of_gt (blk_lt (g := gb137) (o := .cells #[.int .i64 a2_0, .int .i64 a2_1] 42 (0, 0)) (xb BK137.out)) : gb149 ≠ gb137))
                  have n14_ := Aside0.mk ((by rw [hg]; exact Nat.ne_of_lt (blk_lt (g := gb150) (o := .cells #[.int .i64 0, .int .i64 0, .int .i64 0, .int .i64 0] 85 (0, 0)) (xb BK150.out)) : gb150 ≠ gb149))
                  have n15_ := Aside0.mk ((by rw [hg]; exact Nat.ne_of_gt (blk_lt (g := gb150) (o := .cells #[.int .i64 0, .int .i64 0, .int .i64 0, .int .i64 0] 85 (0, 0)) (xb BK150.out)) : gb149 ≠ gb150))
                  clear BK135
                  clear BK136
                  clear BK137
                  clear BK150
                  clear HB
                  have BK135 := n0_
                  have BK136 := n1_
                  have BK137 := n2_
                  have BK150 := n3_
                  have HB := n4_
                  have BK149 := n5_
                  have GW149 := n6_
                  have GE149 := n7_
                  have NB135_149 := n8_
                  have NB149_135 := n9_
                  have NB136_149 := n10_
                  have NB149_136 := n11_
                  have NB137_149 := n12_
                  have NB149_137 := n13_
                  have NB150_149 := n14_
                  have NB149_150 := n15_
                  clear n0_ n1_ n2_ n3_ n4_ n5_ n6_ n7_ n8_ n9_ n10_ n11_ n12_ n13_ n14_ n15_
                  clear hb hbox hg
                  refine hK.out _ _ ⟨(blk_cell BK135.out 0).trans rfl, (blk_cell BK135.out 1).trans rfl, (blk_cell BK137.out 0).trans rfl, (blk_cell BK137.out 1).trans rfl, (blk_cell BK136.out 0).trans rfl, (blk_cell BK136.out 1).trans rfl⟩ (fun hHeld => ?_)
                  clear hK K
                  refine norm_ (a' := ?_) ?_ ?_
                  rotate_left
                  · show Act.put _ (some 9) _ = _
                    simp only [Act.put, List.setIfInBounds_toArray, List.set_cons_zero, List.set_cons_succ, i64_w, i32_w]
                    rfl
                  exact norm_ (by first | (simp only [putAll, Act.put, List.setIfInBounds_toArray, List.set_cons_zero, List.set_cons_succ]; done) | (simp only [putAll, Act.put, List.setIfInBounds_toArray, List.set_cons_zero, List.set_cons_succ]; rfl)) (hJ2_5_6_7 (gb149, gb150) _ ⟨hHeld, (xb BK135.out), (xb BK136.out), (xb BK137.out), (xb BK149.out), (xb BK150.out), GW149.out, GE149.out, NB135_149.out, NB149_135.out, NB136_149.out, NB149_136.out, NB137_149.out, NB149_137.out, NB150_149.out, NB149_150.out, GW150.out, GE150.out, NB135_150.out, NB150_135.out, NB136_150.out, NB150_136.out, NB137_150.out, NB150_137.out, (xs HB.out)⟩)
              · skip
                rintro gb149 w55 ⟨hS_, h0_, h1_, h2_, h3_, h4_, h5_, h6_, h7_, h8_, h9_, h10_, h11_, h12_⟩
                have n0_ : Aside0 (w55.heap[gb135]? = some (.cells #[.int .i64 a0_0, .int .i64 a0_1] 42 (0, 0))) := ⟨h0_⟩
                have n1_ : Aside0 (w55.heap[gb136]? = some (.cells #[.int .i64 a1_0, .int .i64 a1_1] 42 (0, 0))) := ⟨h1_⟩
                have n2_ : Aside0 (w55.heap[gb137]? = some (.cells #[.int .i64 a2_0, .int .i64 a2_1] 42 (0, 0))) := ⟨h2_⟩
                have n3_ : Aside0 (w55.heap[gb149]? = some (.cells #[.int .i64 0, .int .i64 0, .int .i64 0, .int .i64 0] 85 (0, 0))) := ⟨h3_⟩
                have n4_ : Aside0 (w.heap.size ≤ gb149) := ⟨h4_⟩
                have n5_ : Aside0 (w.heap.size ≤ gb149) := ⟨h5_⟩
                have n6_ : Aside0 (gb135 ≠ gb149) := ⟨h6_⟩
                have n7_ : Aside0 (gb149 ≠ gb135) := ⟨h7_⟩
                have n8_ : Aside0 (gb136 ≠ gb149) := ⟨h8_⟩
                have n9_ : Aside0 (gb149 ≠ gb136) := ⟨h9_⟩
                have n10_ : Aside0 (gb137 ≠ gb149) := ⟨h10_⟩
                have n11_ : Aside0 (gb149 ≠ gb137) := ⟨h11_⟩
                have n12_ : Aside0 (Below w.heap.size w w55) := ⟨h12_⟩
                clear BK135
                clear BK136
                clear BK137
                clear HB
                clear h0_ h1_ h2_ h3_ h4_ h5_ h6_ h7_ h8_ h9_ h10_ h11_ h12_
                have BK135 := n0_
                have BK136 := n1_
                have BK137 := n2_
                have BK149 := n3_
                have GW149 := n4_
                have GE149 := n5_
                have NB135_149 := n6_
                have NB149_135 := n7_
                have NB136_149 := n8_
                have NB149_136 := n9_
                have NB137_149 := n10_
                have NB149_137 := n11_
                have HB := n12_
                clear n0_ n1_ n2_ n3_ n4_ n5_ n6_ n7_ n8_ n9_ n10_ n11_ n12_
                have hHeld : w55.cell? ⟨gb135, 0, none⟩ = some (.int .i64 a0_0) ∧ w55.cell? ⟨gb135, 1, none⟩ = some (.int .i64 a0_1) ∧ w55.cell? ⟨gb137, 0, none⟩ = some (.int .i64 a2_0) ∧ w55.cell? ⟨gb137, 1, none⟩ = some (.int .i64 a2_1) ∧ w55.cell? ⟨gb136, 0, none⟩ = some (.int .i64 a1_0) ∧ w55.cell? ⟨gb136, 1, none⟩ = some (.int .i64 a1_1) := hS_
                refine norm_ (a' := ?_) ?_ ?_
                rotate_left
                · simp only [putAll, Act.put, List.setIfInBounds_toArray, List.set_cons_zero, List.set_cons_succ]
                  rfl
                refine one_ (i := 7) (N := some 10) #[true, true, true, true, true, true, true, true, false, false] rfl rfl (one_of HT_.out (by kernel_rfl)) (by decide) (fun K hK => ?_)
                refine box_step ?hg (N := 10) ?hd (cs := #[.int .i64 0, .int .i64 0, .int .i64 0, .int .i64 0]) (t := 85) ?hr ?_; (case hd => rfl); (case hg => rfl); (case hr => first | (go_simp; done) | (go_simp; rfl))
                intro gb150 hg w56 hbox hb
                have n0_ := Aside0.mk (blk_below (g := gb135) (o := .cells #[.int .i64 a0_0, .int .i64 a0_1] 42 (0, 0)) (xb BK135.out) hb)
                have n1_ := Aside0.mk (blk_below (g := gb136) (o := .cells #[.int .i64 a1_0, .int .i64 a1_1] 42 (0, 0)) (xb BK136.out) hb)
                have n2_ := Aside0.mk (blk_below (g := gb137) (o := .cells #[.int .i64 a2_0, .int .i64 a2_1] 42 (0, 0)) (xb BK137.out) hb)
                have n3_ := Aside0.mk (blk_below (g := gb149) (o := .cells #[.int .i64 0, .int .i64 0, .int .i64 0, .int .i64 0] 85 (0, 0)) (xb BK149.out) hb)
                have n4_ := Aside0.mk (below_step (xs HB.out) hb)
                have n5_ := Aside0.mk (hbox)
                have n6_ := Aside0.mk ((by rw [hg]; exact (below_size (xs HB.out)) : w.heap.size ≤ gb150))
                have n7_ := Aside0.mk ((by rw [hg]; exact (below_size (xs HB.out)) : w.heap.size ≤ gb150))
                have n8_ := Aside0.mk ((by rw [hg]; exact Nat.ne_of_lt (blk_lt (g := gb135) (o := .cells #[.int .i64 a0_0, .int .i64 a0_1] 42 (0, 0)) (xb BK135.out)) : gb135 ≠ gb150))
                have n9_ := Aside0.mk ((by rw [hg]; exact Nat.ne_of_gt (blk_lt (g := gb135) (o := .cells #[.int .i64 a0_0, .int .i64 a0_1] 42 (0, 0)) (xb BK135.out)) : gb150 ≠ gb135))
                have n10_ := Aside0.mk ((by rw [hg]; exact Nat.ne_of_lt (blk_lt (g := gb136) (o := .cells #[.int .i64 a1_0, .int .i64 a1_1] 42 (0, 0)) (xb BK136.out)) : gb136 ≠ gb150))
                have n11_ := Aside0.mk ((by rw [hg]; exact Nat.ne_of_gt (blk_lt (g := gb136) (o := .cells #[.int .i64 a1_0, .int .i64 a1_1] 42 (0, 0)) (xb BK136.out)) : gb150 ≠ gb136))
                have n12_ := Aside0.mk ((by rw [hg]; exact Nat.ne_of_lt (blk_lt (g := gb137) (o := .cells #[.int .i64 a2_0, .int .i64 a2_1] 42 (0, 0)) (xb BK137.out)) : gb137 ≠ gb150))
                have n13_ := Aside0.mk ((by rw [hg]; exact Nat.ne_of_gt (blk_lt (g := gb137) (o := .cells #[.int .i64 a2_0, .int .i64 a2_1] 42 (0, 0)) (xb BK137.out)) : gb150 ≠ gb137))
                have n14_ := Aside0.mk ((by rw [hg]; exact Nat.ne_of_lt (blk_lt (g := gb149) (o := .cells #[.int .i64 0, .int .i64 0, .int .i64 0, .int .i64 0] 85 (0, 0)) (xb BK149.out)) : gb149 ≠ gb150))
                have n15_ := Aside0.mk ((by rw [hg]; exact Nat.ne_of_gt (blk_lt (g := gb149) (o := .cells #[.int .i64 0, .int .i64 0, .int .i64 0, .int .i64 0] 85 (0, 0)) (xb BK149.out)) : gb150 ≠ gb149))
                clear BK135
                clear BK136
                clear BK137
                clear BK149
                clear HB
                have BK135 := n0_
                have BK136 := n1_
                have BK137 := n2_
                have BK149 := n3_
                have HB := n4_
                have BK150 := n5_
                have GW150 := n6_
                have GE150 := n7_
                have NB135_150 := n8_
                have NB150_135 := n9_
                have NB136_150 := n10_
                have NB150_136 := n11_
                have NB137_150 := n12_
                have NB150_137 := n13_
                have NB149_150 := n14_
                have NB150_149 := n15_
                clear n0_ n1_ n2_ n3_ n4_ n5_ n6_ n7_ n8_ n9_ n10_ n11_ n12_ n13_ n14_ n15_
                clear hb hbox hg
                refine hK.out _ _ ⟨(blk_cell BK135.out 0).trans rfl, (blk_cell BK135.out 1).trans rfl, (blk_cell BK137.out 0).trans rfl, (blk_cell BK137.out 1).trans rfl, (blk_cell BK136.out 0).trans rfl, (blk_cell BK136.out 1).trans rfl⟩ (fun hHeld => ?_)
                clear hK K
                refine norm_ (a' := ?_) ?_ ?_
                rotate_left
                · show Act.put _ (some 10) _ = _
                  simp only [Act.put, List.setIfInBounds_toArray, List.set_cons_zero, List.set_cons_succ, i64_w, i32_w]
                  rfl
                exact norm_ (by first | (simp only [putAll, Act.put, List.setIfInBounds_toArray, List.set_cons_zero, List.set_cons_succ]; done) | (simp only [putAll, Act.put, List.setIfInBounds_toArray, List.set_cons_zero, List.set_cons_succ]; rfl)) (hJ2_5_6_7 (gb149, gb150) _ ⟨hHeld, (xb BK135.out), (xb BK136.out), (xb BK137.out), (xb BK149.out), (xb BK150.out), GW149.out, GE149.out, NB135_149.out, NB149_135.out, NB136_149.out, NB149_136.out, NB137_149.out, NB149_137.out, NB150_149.out, NB149_150.out, GW150.out, GE150.out, NB135_150.out, NB150_135.out, NB136_150.out, NB150_136.out, NB137_150.out, NB150_137.out, (xs HB.out)⟩)
            rintro ⟨gb149, gb150⟩ w56 ⟨hS_, h0_, h1_, h2_, h3_, h4_, h5_, h6_, h7_, h8_, h9_, h10_, h11_, h12_, h13_, h14_, h15_, h16_, h17_, h18_, h19_, h20_, h21_, h22_, h23_⟩
            have n0_ : Aside0 (w56.heap[gb135]? = some (.cells #[.int .i64 a0_0, .int .i64 a0_1] 42 (0, 0))) := ⟨h0_⟩
            have n1_ : Aside0 (w56.heap[gb136]? = some (.cells #[.int .i64 a1_0, .int .i64 a1_1] 42 (0, 0))) := ⟨h1_⟩
            have n2_ : Aside0 (w56.heap[gb137]? = some (.cells #[.int .i64 a2_0, .int .i64 a2_1] 42 (0, 0))) := ⟨h2_⟩
            have n3_ : Aside0 (w56.heap[gb149]? = some (.cells #[.int .i64 0, .int .i64 0, .int .i64 0, .int .i64 0] 85 (0, 0))) := ⟨h3_⟩
            have n4_ : Aside0 (w56.heap[gb150]? = some (.cells #[.int .i64 0, .int .i64 0, .int .i64 0, .int .i64 0] 85 (0, 0))) := ⟨h4_⟩
            have n5_ : Aside0 (w.heap.size ≤ gb149) := ⟨h5_⟩
            have n6_ : Aside0 (w.heap.size ≤ gb149) := ⟨h6_⟩
            have n7_ : Aside0 (gb135 ≠ gb149) := ⟨h7_⟩
            have n8_ : Aside0 (gb149 ≠ gb135) := ⟨h8_⟩
            have n9_ : Aside0 (gb136 ≠ gb149) := ⟨h9_⟩
            have n10_ : Aside0 (gb149 ≠ gb136) := ⟨h10_⟩
            have n11_ : Aside0 (gb137 ≠ gb149) := ⟨h11_⟩
            have n12_ : Aside0 (gb149 ≠ gb137) := ⟨h12_⟩
            have n13_ : Aside0 (gb150 ≠ gb149) := ⟨h13_⟩
            have n14_ : Aside0 (gb149 ≠ gb150) := ⟨h14_⟩
            have n15_ : Aside0 (w.heap.size ≤ gb150) := ⟨h15_⟩
            have n16_ : Aside0 (w.heap.size ≤ gb150) := ⟨h16_⟩
            have n17_ : Aside0 (gb135 ≠ gb150) := ⟨h17_⟩
            have n18_ : Aside0 (gb150 ≠ gb135) := ⟨h18_⟩
            have n19_ : Aside0 (gb136 ≠ gb150) := ⟨h19_⟩
            have n20_ : Aside0 (gb150 ≠ gb136) := ⟨h20_⟩
            have n21_ : Aside0 (gb137 ≠ gb150) := ⟨h21_⟩
            have n22_ : Aside0 (gb150 ≠ gb137) := ⟨h22_⟩
            have n23_ : Aside0 (Below w.heap.size w w56) := ⟨h23_⟩
            clear BK135
            clear BK136
            clear BK137
            clear HB
            clear h0_ h1_ h2_ h3_ h4_ h5_ h6_ h7_ h8_ h9_ h10_ h11_ h12_ h13_ h14_ h15_ h16_ h17_ h18_ h19_ h20_ h21_ h22_ h23_
            have BK135 := n0_
            have BK136 := n1_
            have BK137 := n2_
            have BK149 := n3_
            have BK150 := n4_
            have GW149 := n5_
            have GE149 := n6_
            have NB135_149 := n7_
            have NB149_135 := n8_
            have NB136_149 := n9_
            have NB149_136 := n10_
            have NB137_149 := n11_
            have NB149_137 := n12_
            have NB150_149 := n13_
            have NB149_150 := n14_
            have GW150 := n15_
            have GE150 := n16_
            have NB135_150 := n17_
            have NB150_135 := n18_
            have NB136_150 := n19_
            have NB150_136 := n20_
            have NB137_150 := n21_
            have NB150_137 := n22_
            have HB := n23_
            clear n0_ n1_ n2_ n3_ n4_ n5_ n6_ n7_ n8_ n9_ n10_ n11_ n12_ n13_ n14_ n15_ n16_ n17_ n18_ n19_ n20_ n21_ n22_ n23_
            have hHeld : w56.cell? ⟨gb135, 0, none⟩ = some (.int .i64 a0_0) ∧ w56.cell? ⟨gb135, 1, none⟩ = some (.int .i64 a0_1) ∧ w56.cell? ⟨gb137, 0, none⟩ = some (.int .i64 a2_0) ∧ w56.cell? ⟨gb137, 1, none⟩ = some (.int .i64 a2_1) ∧ w56.cell? ⟨gb136, 0, none⟩ = some (.int .i64 a1_0) ∧ w56.cell? ⟨gb136, 1, none⟩ = some (.int .i64 a1_1) := hS_
            refine norm_ (a' := ?_) ?_ ?_
            rotate_left
            · simp only [putAll, Act.put, List.setIfInBounds_toArray, List.set_cons_zero, List.set_cons_succ]
              rfl
            refine one_ (i := 8) (N := none) #[true, true, true, true, true, true, true, true, true, false] rfl rfl (one_of HT_.out (by kernel_rfl)) (by decide) (fun K hK => ?_)
            have hs57 : w56.cell? ⟨gb149, 0, none⟩ = some (.int .i64 0) := (blk_cell BK149.out 0).trans rfl
            have hfs57 := blk_frozen BK149.out 0
            have hns57_0 := NB135_149.out
            have hns57_1 := NB136_149.out
            have hns57_2 := NB137_149.out
            have hns57_4 := NB150_149.out
            have hms57_0 := NB149_135.out
            have hms57_1 := NB149_136.out
            have hms57_2 := NB149_137.out
            have hms57_4 := NB149_150.out
            have hs58 : w56.cell? ⟨gb149, 1, none⟩ = some (.int .i64 0) := (blk_cell BK149.out 1).trans rfl
            have hfs58 := blk_frozen BK149.out 1
            have hns58_0 := NB135_149.out
            have hns58_1 := NB136_149.out
            have hns58_2 := NB137_149.out
            have hns58_4 := NB150_149.out
            have hms58_0 := NB149_135.out
            have hms58_1 := NB149_136.out
            have hms58_2 := NB149_137.out
            have hms58_4 := NB149_150.out
            have hs59 : w56.cell? ⟨gb149, 2, none⟩ = some (.int .i64 0) := (blk_cell BK149.out 2).trans rfl
            have hfs59 := blk_frozen BK149.out 2
            have hns59_0 := NB135_149.out
            have hns59_1 := NB136_149.out
            have hns59_2 := NB137_149.out
            have hns59_4 := NB150_149.out
            have hms59_0 := NB149_135.out
            have hms59_1 := NB149_136.out
            have hms59_2 := NB149_137.out
            have hms59_4 := NB149_150.out
            have hs60 : w56.cell? ⟨gb149, 3, none⟩ = some (.int .i64 0) := (blk_cell BK149.out 3).trans rfl
            have hfs60 := blk_frozen BK149.out 3
            have hns60_0 := NB135_149.out
            have hns60_1 := NB136_149.out
            have hns60_2 := NB137_149.out
            have hns60_4 := NB150_149.out
            have hms60_0 := NB149_135.out
            have hms60_1 := NB149_136.out
            have hms60_2 := NB149_137.out
            have hms60_4 := NB149_150.out
            refine skip_ (w1 := ?_) (by rfl) rfl ?_ ?_
            rotate_left
            · go_simp
              rfl
            refine hK.out _ _ ⟨((cell_far (p := ⟨gb149, _, none⟩) NB135_149.out _).trans (((cell_far (p := ⟨gb149, _, none⟩) NB135_149.out _).trans (((cell_far (p := ⟨gb149, _, none⟩) NB135_149.out _).trans (((cell_far (p := ⟨gb149, _, none⟩) NB135_149.out _).trans (hHeld.1)))))))), ((cell_far (p := ⟨gb149, _, none⟩) NB135_149.out _).trans (((cell_far (p := ⟨gb149, _, none⟩) NB135_149.out _).trans (((cell_far (p := ⟨gb149, _, none⟩) NB135_149.out _).trans (((cell_far (p := ⟨gb149, _, none⟩) NB135_149.out _).trans (hHeld.2.1)))))))), ((cell_far (p := ⟨gb149, _, none⟩) NB137_149.out _).trans (((cell_far (p := ⟨gb149, _, none⟩) NB137_149.out _).trans (((cell_far (p := ⟨gb149, _, none⟩) NB137_149.out _).trans (((cell_far (p := ⟨gb149, _, none⟩) NB137_149.out _).trans (hHeld.2.2.1)))))))), ((cell_far (p := ⟨gb149, _, none⟩) NB137_149.out _).trans (((cell_far (p := ⟨gb149, _, none⟩) NB137_149.out _).trans (((cell_far (p := ⟨gb149, _, none⟩) NB137_149.out _).trans (((cell_far (p := ⟨gb149, _, none⟩) NB137_149.out _).trans (hHeld.2.2.2.1)))))))), ((cell_far (p := ⟨gb149, _, none⟩) NB136_149.out _).trans (((cell_far (p := ⟨gb149, _, none⟩) NB136_149.out _).trans (((cell_far (p := ⟨gb149, _, none⟩) NB136_149.out _).trans (((cell_far (p := ⟨gb149, _, none⟩) NB136_149.out _).trans (hHeld.2.2.2.2.1)))))))), ((cell_far (p := ⟨gb149, _, none⟩) NB136_149.out _).trans (((cell_far (p := ⟨gb149, _, none⟩) NB136_149.out _).trans (((cell_far (p := ⟨gb149, _, none⟩) NB136_149.out _).trans (((cell_far (p := ⟨gb149, _, none⟩) NB136_149.out _).trans (hHeld.2.2.2.2.2))))))))⟩ (fun hHeld => ?_)
            clear hK K
            refine one_ (i := 9) (N := none) #[true, true, true, true, true, true, true, true, true, true] rfl rfl (one_of HT_.out (by kernel_rfl)) (by decide) (fun K hK => ?_)
            have hs61 : w56.cell? ⟨gb150, 0, none⟩ = some (.int .i64 0) := (blk_cell BK150.out 0).trans rfl
            have hfs61 := blk_frozen BK150.out 0
            have hns61_0 := NB135_150.out
            have hns61_1 := NB136_150.out
            have hns61_2 := NB137_150.out
            have hns61_3 := NB149_150.out
            have hms61_0 := NB150_135.out
            have hms61_1 := NB150_136.out
            have hms61_2 := NB150_137.out
            have hms61_3 := NB150_149.out
            have hs62 : w56.cell? ⟨gb150, 1, none⟩ = some (.int .i64 0) := (blk_cell BK150.out 1).trans rfl
            have hfs62 := blk_frozen BK150.out 1
            have hns62_0 := NB135_150.out
            have hns62_1 := NB136_150.out
            have hns62_2 := NB137_150.out
            have hns62_3 := NB149_150.out
            have hms62_0 := NB150_135.out
            have hms62_1 := NB150_136.out
            have hms62_2 := NB150_137.out
            have hms62_3 := NB150_149.out
            have hs63 : w56.cell? ⟨gb150, 2, none⟩ = some (.int .i64 0) := (blk_cell BK150.out 2).trans rfl
            have hfs63 := blk_frozen BK150.out 2
            have hns63_0 := NB135_150.out
            have hns63_1 := NB136_150.out
            have hns63_2 := NB137_150.out
            have hns63_3 := NB149_150.out
            have hms63_0 := NB150_135.out
            have hms63_1 := NB150_136.out
            have hms63_2 := NB150_137.out
            have hms63_3 := NB150_149.out
            have hs64 : w56.cell? ⟨gb150, 3, none⟩ = some (.int .i64 0) := (blk_cell BK150.out 3).trans rfl
            have hfs64 := blk_frozen BK150.out 3
            have hns64_0 := NB135_150.out
            have hns64_1 := NB136_150.out
            have hns64_2 := NB137_150.out
            have hns64_3 := NB149_150.out
            have hms64_0 := NB150_135.out
            have hms64_1 := NB150_136.out
            have hms64_2 := NB150_137.out
            have hms64_3 := NB150_149.out
            refine skip_ (w1 := ?_) (by rfl) rfl ?_ ?_
            rotate_left
            · go_simp
              rfl
            refine hK.out _ _ ⟨((cell_far (p := ⟨gb150, _, none⟩) NB135_150.out _).trans (((cell_far (p := ⟨gb150, _, none⟩) NB135_150.out _).trans (((cell_far (p := ⟨gb150, _, none⟩) NB135_150.out _).trans (((cell_far (p := ⟨gb150, _, none⟩) NB135_150.out _).trans (hHeld.1)))))))), ((cell_far (p := ⟨gb150, _, none⟩) NB135_150.out _).trans (((cell_far (p := ⟨gb150, _, none⟩) NB135_150.out _).trans (((cell_far (p := ⟨gb150, _, none⟩) NB135_150.out _).trans (((cell_far (p := ⟨gb150, _, none⟩) NB135_150.out _).trans (hHeld.2.1)))))))), ((cell_far (p := ⟨gb150, _, none⟩) NB137_150.out _).trans (((cell_far (p := ⟨gb150, _, none⟩) NB137_150.out _).trans (((cell_far (p := ⟨gb150, _, none⟩) NB137_150.out _).trans (((cell_far (p := ⟨gb150, _, none⟩) NB137_150.out _).trans (hHeld.2.2.1)))))))), ((cell_far (p := ⟨gb150, _, none⟩) NB137_150.out _).trans (((cell_far (p := ⟨gb150, _, none⟩) NB137_150.out _).trans (((cell_far (p := ⟨gb150, _, none⟩) NB137_150.out _).trans (((cell_far (p := ⟨gb150, _, none⟩) NB137_150.out _).trans (hHeld.2.2.2.1)))))))), ((cell_far (p := ⟨gb150, _, none⟩) NB136_150.out _).trans (((cell_far (p := ⟨gb150, _, none⟩) NB136_150.out _).trans (((cell_far (p := ⟨gb150, _, none⟩) NB136_150.out _).trans (((cell_far (p := ⟨gb150, _, none⟩) NB136_150.out _).trans (hHeld.2.2.2.2.1)))))))), ((cell_far (p := ⟨gb150, _, none⟩) NB136_150.out _).trans (((cell_far (p := ⟨gb150, _, none⟩) NB136_150.out _).trans (((cell_far (p := ⟨gb150, _, none⟩) NB136_150.out _).trans (((cell_far (p := ⟨gb150, _, none⟩) NB136_150.out _).trans (hHeld.2.2.2.2.2))))))))⟩ (fun hHeld => ?_)
            clear hK K
            refine done_ (done_of HT_.out (by kernel_rfl)) ?_
            have hnb65 := NB149_135.out
            have hnc65 := NB135_149.out
            have hnb66 := NB149_136.out
            have hnc66 := NB136_149.out
            have hnb67 := NB149_137.out
            have hnc67 := NB137_149.out
            have hnb68 := NB149_150.out
            have hnc68 := NB150_149.out
            have hcz69_0 : w56.cell? ⟨gb149, 0, none⟩ = some (.int .i64 0) := (blk_cell BK149.out 0).trans rfl
            have hcz69_1 : w56.cell? ⟨gb149, 1, none⟩ = some (.int .i64 0) := (blk_cell BK149.out 1).trans rfl
            have hcz69_2 : w56.cell? ⟨gb149, 2, none⟩ = some (.int .i64 0) := (blk_cell BK149.out 2).trans rfl
            have hcz69_3 : w56.cell? ⟨gb149, 3, none⟩ = some (.int .i64 0) := (blk_cell BK149.out 3).trans rfl
            have hfz69_0 := blk_frozen BK149.out 0
            have hfz69_1 := blk_frozen BK149.out 1
            have hfz69_2 := blk_frozen BK149.out 2
            have hfz69_3 := blk_frozen BK149.out 3
            have hnb70 := NB150_135.out
            have hnc70 := NB135_150.out
            have hnb71 := NB150_136.out
            have hnc71 := NB136_150.out
            have hnb72 := NB150_137.out
            have hnc72 := NB137_150.out
            have hcz73_0 : w56.cell? ⟨gb150, 0, none⟩ = some (.int .i64 0) := (blk_cell BK150.out 0).trans rfl
            have hcz73_1 : w56.cell? ⟨gb150, 1, none⟩ = some (.int .i64 0) := (blk_cell BK150.out 1).trans rfl
            have hcz73_2 : w56.cell? ⟨gb150, 2, none⟩ = some (.int .i64 0) := (blk_cell BK150.out 2).trans rfl
            have hcz73_3 : w56.cell? ⟨gb150, 3, none⟩ = some (.int .i64 0) := (blk_cell BK150.out 3).trans rfl
            have hfz73_0 := blk_frozen BK150.out 0
            have hfz73_1 := blk_frozen BK150.out 1
            have hfz73_2 := blk_frozen BK150.out 2
            have hfz73_3 := blk_frozen BK150.out 3
            go_upto_if 46 with (fail)
            have H := HS50.out
            clear HS50
            by_cases c74 : (wrap64 (t141 * t145)) ≤ 0
            · rw [if_pos c74] at H
              have c74b0 : decide ((wrap64 (t141 * t145)) ≤ 0) = true := decide_eq_true c74
              clear c74
              (first | rw [c74b0] | (simp only [i64_w, i32_w]; rw [c74b0]) | skip)
              simp only [Option.some.injEq, Prod.mk.injEq] at H
              obtain ⟨rfl, rfl, rfl⟩ := H
              go_wp2
              go_ret3
              exact ⟨by first | rfl | (simp [errW_none, errW_some] <;> rfl) | (simp [*, errW_none, errW_some] <;> rfl), by repeat (first | (with_reducible first | exact HB.out | apply below_alloc | apply pw_below_drewN | apply below_drew1 | refine below_set ?_ GE135.out | refine below_set ?_ GE136.out | refine below_set ?_ GE137.out | refine below_set ?_ GE149.out | refine below_set ?_ GE150.out) | exact HB.out)⟩
            · rw [if_neg c74] at H
              have c74b0 : decide ((wrap64 (t141 * t145)) ≤ 0) = false := decide_eq_false c74
              clear c74
              (first | rw [c74b0] | (simp only [i64_w, i32_w]; rw [c74b0]) | skip)
              replace H := Option.bind_eq_some_iff.mp H
              obtain ⟨⟨t151, t152, t153⟩, A750, H⟩ := H
              replace H : (if t153 = true then (some (t151, t152, true)) else (some (0, 0, false))) = some (r1, r2, r3) := H
              have A75 := Aside0.mk A750
              clear A750
              by_cases c76 : t153 = true
              · subst c76
                have H1 : (some (t151, t152, true)) = some (r1, r2, r3) := by rw [if_pos rfl] at H; exact H
                clear H
                have H := H1
                clear H1
                simp only [Option.some.injEq, Prod.mk.injEq] at H
                obtain ⟨rfl, rfl, rfl⟩ := H
                have hnb77 := NB149_135.out
                have hnc77 := NB135_149.out
                have hnb78 := NB149_136.out
                have hnc78 := NB136_149.out
                have hnb79 := NB149_137.out
                have hnc79 := NB137_149.out
                have hnb80 := NB149_150.out
                have hnc80 := NB150_149.out
                have hcz81_0 : w56.cell? ⟨gb149, 0, none⟩ = some (.int .i64 0) := (blk_cell BK149.out 0).trans rfl
                have hcz81_1 : w56.cell? ⟨gb149, 1, none⟩ = some (.int .i64 0) := (blk_cell BK149.out 1).trans rfl
                have hcz81_2 : w56.cell? ⟨gb149, 2, none⟩ = some (.int .i64 0) := (blk_cell BK149.out 2).trans rfl
                have hcz81_3 : w56.cell? ⟨gb149, 3, none⟩ = some (.int .i64 0) := (blk_cell BK149.out 3).trans rfl
                have hfz81_0 := blk_frozen BK149.out 0
                have hfz81_1 := blk_frozen BK149.out 1
                have hfz81_2 := blk_frozen BK149.out 2
                have hfz81_3 := blk_frozen BK149.out 3
                have hnb82 := NB150_135.out
                have hnc82 := NB135_150.out
                have hnb83 := NB150_136.out
                have hnc83 := NB136_150.out
                have hnb84 := NB150_137.out
                have hnc84 := NB137_150.out
                have hcz85_0 : w56.cell? ⟨gb150, 0, none⟩ = some (.int .i64 0) := (blk_cell BK150.out 0).trans rfl
                have hcz85_1 : w56.cell? ⟨gb150, 1, none⟩ = some (.int .i64 0) := (blk_cell BK150.out 1).trans rfl
                have hcz85_2 : w56.cell? ⟨gb150, 2, none⟩ = some (.int .i64 0) := (blk_cell BK150.out 2).trans rfl
                have hcz85_3 : w56.cell? ⟨gb150, 3, none⟩ = some (.int .i64 0) := (blk_cell BK150.out 3).trans rfl
                have hfz85_0 := blk_frozen BK150.out 0
                have hfz85_1 := blk_frozen BK150.out 1
                have hfz85_2 := blk_frozen BK150.out 2
                have hfz85_3 := blk_frozen BK150.out 3
                go_wp2_with (first | ((with_reducible refine gate_callee (f := 74) rfl ?_); refine goesL_ (some 50) rfl rfl Try.func74 (by kernel_rfl) rfl #[.agg #[.int .i64 t141, .int .i64 t142, .int .i64 t143, .int .i64 t144], .agg #[.int .i64 t145, .int .i64 t146, .int .i64 t147, .int .i64 t148]] rfl (by (try simp only [List.map_toArray, List.map_cons, List.map_nil]); first | done | rfl | (simp only [List.length_drop, List.length_take]; rfl)) ?_; (with_reducible refine (spec_saCross.calls kj3 t141 t142 t143 t144 t145 t146 t147 t148 t151 t152 true _ A75.out).mono ?_); rintro e w86 ⟨rfl, hb⟩; refine ⟨_, rfl, ?_⟩; have n0_ := Aside0.mk (blk_below (g := gb135) (o := .cells #[.int .i64 a0_0, .int .i64 a0_1] 42 (0, 0)) (by (with_reducible repeat (first | refine blk_drewN ?_ _ | refine blk_drew ?_ | refine blk_alloc ?_ _)); refine blk_far ?_ NB135_150.out _; (with_reducible repeat (first | refine blk_drewN ?_ _ | refine blk_drew ?_ | refine blk_alloc ?_ _)); refine blk_far ?_ NB135_150.out _; (with_reducible repeat (first | refine blk_drewN ?_ _ | refine blk_drew ?_ | refine blk_alloc ?_ _)); refine blk_far ?_ NB135_150.out _; (with_reducible repeat (first | refine blk_drewN ?_ _ | refine blk_drew ?_ | refine blk_alloc ?_ _)); refine blk_far ?_ NB135_150.out _; (with_reducible repeat (first | refine blk_drewN ?_ _ | refine blk_drew ?_ | refine blk_alloc ?_ _)); refine blk_far ?_ NB135_149.out _; (with_reducible repeat (first | refine blk_drewN ?_ _ | refine blk_drew ?_ | refine blk_alloc ?_ _)); refine blk_far ?_ NB135_149.out _; (with_reducible repeat (first | refine blk_drewN ?_ _ | refine blk_drew ?_ | refine blk_alloc ?_ _)); refine blk_far ?_ NB135_149.out _; (with_reducible repeat (first | refine blk_drewN ?_ _ | refine blk_drew ?_ | refine blk_alloc ?_ _)); refine blk_far ?_ NB135_149.out _; (with_reducible repeat (first | refine blk_drewN ?_ _ | refine blk_drew ?_ | refine blk_alloc ?_ _)); exact BK135.out) hb); have n1_ := Aside0.mk (blk_below (g := gb136) (o := .cells #[.int .i64 a1_0, .int .i64 a1_1] 42 (0, 0)) (by (with_reducible repeat (first | refine blk_drewN ?_ _ | refine blk_drew ?_ | refine blk_alloc ?_ _)); refine blk_far ?_ NB136_150.out _; (with_reducible repeat (first | refine blk_drewN ?_ _ | refine blk_drew ?_ | refine blk_alloc ?_ _)); refine blk_far ?_ NB136_150.out _; (with_reducible repeat (first | refine blk_drewN ?_ _ | refine blk_drew ?_ | refine blk_alloc ?_ _)); refine blk_far ?_ NB136_150.out _; (with_reducible repeat (first | refine blk_drewN ?_ _ | refine blk_drew ?_ | refine blk_alloc ?_ _)); refine blk_far ?_ NB136_150.out _; (with_reducible repeat (first | refine blk_drewN ?_ _ | refine blk_drew ?_ | refine blk_alloc ?_ _)); refine blk_far ?_ NB136_149.out _; (with_reducible repeat (first | refine blk_drewN ?_ _ | refine blk_drew ?_ | refine blk_alloc ?_ _)); refine blk_far ?_ NB136_149.out _; (with_reducible repeat (first | refine blk_drewN ?_ _ | refine blk_drew ?_ | refine blk_alloc ?_ _)); refine blk_far ?_ NB136_149.out _; (with_reducible repeat (first | refine blk_drewN ?_ _ | refine blk_drew ?_ | refine blk_alloc ?_ _)); refine blk_far ?_ NB136_149.out _; (with_reducible repeat (first | refine blk_drewN ?_ _ | refine blk_drew ?_ | refine blk_alloc ?_ _)); exact BK136.out) hb); have n2_ := Aside0.mk (blk_below (g := gb137) (o := .cells #[.int .i64 a2_0, .int .i64 a2_1] 42 (0, 0)) (by (with_reducible repeat (first | refine blk_drewN ?_ _ | refine blk_drew ?_ | refine blk_alloc ?_ _)); refine blk_far ?_ NB137_150.out _; (with_reducible repeat (first | refine blk_drewN ?_ _ | refine blk_drew ?_ | refine blk_alloc ?_ _)); refine blk_far ?_ NB137_150.out _; (with_reducible repeat (first | refine blk_drewN ?_ _ | refine blk_drew ?_ | refine blk_alloc ?_ _)); refine blk_far ?_ NB137_150.out _; (with_reducible repeat (first | refine blk_drewN ?_ _ | refine blk_drew ?_ | refine blk_alloc ?_ _)); refine blk_far ?_ NB137_150.out _; (with_reducible repeat (first | refine blk_drewN ?_ _ | refine blk_drew ?_ | refine blk_alloc ?_ _)); refine blk_far ?_ NB137_149.out _; (with_reducible repeat (first | refine blk_drewN ?_ _ | refine blk_drew ?_ | refine blk_alloc ?_ _)); refine blk_far ?_ NB137_149.out _; (with_reducible repeat (first | refine blk_drewN ?_ _ | refine blk_drew ?_ | refine blk_alloc ?_ _)); refine blk_far ?_ NB137_149.out _; (with_reducible repeat (first | refine blk_drewN ?_ _ | refine blk_drew ?_ | refine blk_alloc ?_ _)); refine blk_far ?_ NB137_149.out _; (with_reducible repeat (first | refine blk_drewN ?_ _ | refine blk_drew ?_ | refine blk_alloc ?_ _)); exact BK137.out) hb); have n3_ := Aside0.mk (blk_below (g := gb149) (o := .cells #[.int .i64 t141, .int .i64 t142, .int .i64 t143, .int .i64 t144] 85 (0, 0)) (by (with_reducible repeat (first | refine blk_drewN ?_ _ | refine blk_drew ?_ | refine blk_alloc ?_ _)); refine blk_far ?_ NB149_150.out _; (with_reducible repeat (first | refine blk_drewN ?_ _ | refine blk_drew ?_ | refine blk_alloc ?_ _)); refine blk_far ?_ NB149_150.out _; (with_reducible repeat (first | refine blk_drewN ?_ _ | refine blk_drew ?_ | refine blk_alloc ?_ _)); refine blk_far ?_ NB149_150.out _; (with_reducible repeat (first | refine blk_drewN ?_ _ | refine blk_drew ?_ | refine blk_alloc ?_ _)); refine blk_far ?_ NB149_150.out _; (with_reducible repeat (first | refine blk_drewN ?_ _ | refine blk_drew ?_ | refine blk_alloc ?_ _)); refine blk_put (cs := #[.int .i64 t141, .int .i64 t142, .int .i64 t143, .int .i64 0]) ?_ 3 _ rfl; (with_reducible repeat (first | refine blk_drewN ?_ _ | refine blk_drew ?_ | refine blk_alloc ?_ _)); refine blk_put (cs := #[.int .i64 t141, .int .i64 t142, .int .i64 0, .int .i64 0]) ?_ 2 _ rfl; (with_reducible repeat (first | refine blk_drewN ?_ _ | refine blk_drew ?_ | refine blk_alloc ?_ _)); refine blk_put (cs := #[.int .i64 t141, .int .i64 0, .int .i64 0, .int .i64 0]) ?_ 1 _ rfl; (with_reducible repeat (first | refine blk_drewN ?_ _ | refine blk_drew ?_ | refine blk_alloc ?_ _)); refine blk_put (cs := #[.int .i64 0, .int .i64 0, .int .i64 0, .int .i64 0]) ?_ 0 _ rfl; (with_reducible repeat (first | refine blk_drewN ?_ _ | refine blk_drew ?_ | refine blk_alloc ?_ _)); exact BK149.out) hb); have n4_ := Aside0.mk (blk_below (g := gb150) (o := .cells #[.int .i64 t145, .int .i64 t146, .int .i64 t147, .int .i64 t148] 85 (0, 0)) (by (with_reducible repeat (first | refine blk_drewN ?_ _ | refine blk_drew ?_ | refine blk_alloc ?_ _)); refine blk_put (cs := #[.int .i64 t145, .int .i64 t146, .int .i64 t147, .int .i64 0]) ?_ 3 _ rfl; (with_reducible repeat (first | refine blk_drewN ?_ _ | refine blk_drew ?_ | refine blk_alloc ?_ _)); refine blk_put (cs := #[.int .i64 t145, .int .i64 t146, .int .i64 0, .int .i64 0]) ?_ 2 _ rfl; (with_reducible repeat (first | refine blk_drewN ?_ _ | refine blk_drew ?_ | refine blk_alloc ?_ _)); refine blk_put (cs := #[.int .i64 t145, .int .i64 0, .int .i64 0, .int .i64 0]) ?_ 1 _ rfl; (with_reducible repeat (first | refine blk_drewN ?_ _ | refine blk_drew ?_ | refine blk_alloc ?_ _)); refine blk_put (cs := #[.int .i64 0, .int .i64 0, .int .i64 0, .int .i64 0]) ?_ 0 _ rfl; (with_reducible repeat (first | refine blk_drewN ?_ _ | refine blk_drew ?_ | refine blk_alloc ?_ _)); refine blk_far ?_ NB150_149.out _; (with_reducible repeat (first | refine blk_drewN ?_ _ | refine blk_drew ?_ | refine blk_alloc ?_ _)); refine blk_far ?_ NB150_149.out _; (with_reducible repeat (first | refine blk_drewN ?_ _ | refine blk_drew ?_ | refine blk_alloc ?_ _)); refine blk_far ?_ NB150_149.out _; (with_reducible repeat (first | refine blk_drewN ?_ _ | refine blk_drew ?_ | refine blk_alloc ?_ _)); refine blk_far ?_ NB150_149.out _; (with_reducible repeat (first | refine blk_drewN ?_ _ | refine blk_drew ?_ | refine blk_alloc ?_ _)); exact BK150.out) hb); have n5_ := Aside0.mk (below_step (xs HB.out) hb); clear BK135; clear BK136; clear BK137; clear BK149; clear BK150; clear HB; have BK135 := n0_; have BK136 := n1_; have BK137 := n2_; have BK149 := n3_; have BK150 := n4_; have HB := n5_; clear n0_ n1_ n2_ n3_ n4_ n5_; (try clear hb); (try clear hb2); (try clear hk); (try clear hi)))
                go_ret3
                exact ⟨by first | rfl | (simp [errW_none, errW_some] <;> rfl) | (simp [*, errW_none, errW_some] <;> rfl), by repeat (first | (with_reducible first | exact HB.out | apply below_alloc | apply pw_below_drewN | apply below_drew1 | refine below_set ?_ GE135.out | refine below_set ?_ GE136.out | refine below_set ?_ GE137.out | refine below_set ?_ GE149.out | refine below_set ?_ GE150.out) | exact HB.out)⟩
              · replace c76 := Bool.eq_false_iff.mpr c76
                subst c76
                have H1 : (some (0, 0, false)) = some (r1, r2, r3) := by rw [if_neg (show ¬ (false = true) by decide)] at H; exact H
                clear H
                have H := H1
                clear H1
                simp only [Option.some.injEq, Prod.mk.injEq] at H
                obtain ⟨rfl, rfl, rfl⟩ := H
                have hnb87 := NB149_135.out
                have hnc87 := NB135_149.out
                have hnb88 := NB149_136.out
                have hnc88 := NB136_149.out
                have hnb89 := NB149_137.out
                have hnc89 := NB137_149.out
                have hnb90 := NB149_150.out
                have hnc90 := NB150_149.out
                have hcz91_0 : w56.cell? ⟨gb149, 0, none⟩ = some (.int .i64 0) := (blk_cell BK149.out 0).trans rfl
                have hcz91_1 : w56.cell? ⟨gb149, 1, none⟩ = some (.int .i64 0) := (blk_cell BK149.out 1).trans rfl
                have hcz91_2 : w56.cell? ⟨gb149, 2, none⟩ = some (.int .i64 0) := (blk_cell BK149.out 2).trans rfl
                have hcz91_3 : w56.cell? ⟨gb149, 3, none⟩ = some (.int .i64 0) := (blk_cell BK149.out 3).trans rfl
                have hfz91_0 := blk_frozen BK149.out 0
                have hfz91_1 := blk_frozen BK149.out 1
                have hfz91_2 := blk_frozen BK149.out 2
                have hfz91_3 := blk_frozen BK149.out 3
                have hnb92 := NB150_135.out
                have hnc92 := NB135_150.out
                have hnb93 := NB150_136.out
                have hnc93 := NB136_150.out
                have hnb94 := NB150_137.out
                have hnc94 := NB137_150.out
                have hcz95_0 : w56.cell? ⟨gb150, 0, none⟩ = some (.int .i64 0) := (blk_cell BK150.out 0).trans rfl
                have hcz95_1 : w56.cell? ⟨gb150, 1, none⟩ = some (.int .i64 0) := (blk_cell BK150.out 1).trans rfl
                have hcz95_2 : w56.cell? ⟨gb150, 2, none⟩ = some (.int .i64 0) := (blk_cell BK150.out 2).trans rfl
                have hcz95_3 : w56.cell? ⟨gb150, 3, none⟩ = some (.int .i64 0) := (blk_cell BK150.out 3).trans rfl
                have hfz95_0 := blk_frozen BK150.out 0
                have hfz95_1 := blk_frozen BK150.out 1
                have hfz95_2 := blk_frozen BK150.out 2
                have hfz95_3 := blk_frozen BK150.out 3
                go_wp2_with (first | ((with_reducible refine gate_callee (f := 74) rfl ?_); refine goesL_ (some 50) rfl rfl Try.func74 (by kernel_rfl) rfl #[.agg #[.int .i64 t141, .int .i64 t142, .int .i64 t143, .int .i64 t144], .agg #[.int .i64 t145, .int .i64 t146, .int .i64 t147, .int .i64 t148]] rfl (by (try simp only [List.map_toArray, List.map_cons, List.map_nil]); first | done | rfl | (simp only [List.length_drop, List.length_take]; rfl)) ?_; (with_reducible refine (spec_saCross.calls kj3 t141 t142 t143 t144 t145 t146 t147 t148 t151 t152 false _ A75.out).mono ?_); rintro e w96 ⟨rfl, hb⟩; refine ⟨_, rfl, ?_⟩; have n0_ := Aside0.mk (blk_below (g := gb135) (o := .cells #[.int .i64 a0_0, .int .i64 a0_1] 42 (0, 0)) (by (with_reducible repeat (first | refine blk_drewN ?_ _ | refine blk_drew ?_ | refine blk_alloc ?_ _)); refine blk_far ?_ NB135_150.out _; (with_reducible repeat (first | refine blk_drewN ?_ _ | refine blk_drew ?_ | refine blk_alloc ?_ _)); refine blk_far ?_ NB135_150.out _; (with_reducible repeat (first | refine blk_drewN ?_ _ | refine blk_drew ?_ | refine blk_alloc ?_ _)); refine blk_far ?_ NB135_150.out _; (with_reducible repeat (first | refine blk_drewN ?_ _ | refine blk_drew ?_ | refine blk_alloc ?_ _)); refine blk_far ?_ NB135_150.out _; (with_reducible repeat (first | refine blk_drewN ?_ _ | refine blk_drew ?_ | refine blk_alloc ?_ _)); refine blk_far ?_ NB135_149.out _; (with_reducible repeat (first | refine blk_drewN ?_ _ | refine blk_drew ?_ | refine blk_alloc ?_ _)); refine blk_far ?_ NB135_149.out _; (with_reducible repeat (first | refine blk_drewN ?_ _ | refine blk_drew ?_ | refine blk_alloc ?_ _)); refine blk_far ?_ NB135_149.out _; (with_reducible repeat (first | refine blk_drewN ?_ _ | refine blk_drew ?_ | refine blk_alloc ?_ _)); refine blk_far ?_ NB135_149.out _; (with_reducible repeat (first | refine blk_drewN ?_ _ | refine blk_drew ?_ | refine blk_alloc ?_ _)); exact BK135.out) hb); have n1_ := Aside0.mk (blk_below (g := gb136) (o := .cells #[.int .i64 a1_0, .int .i64 a1_1] 42 (0, 0)) (by (with_reducible repeat (first | refine blk_drewN ?_ _ | refine blk_drew ?_ | refine blk_alloc ?_ _)); refine blk_far ?_ NB136_150.out _; (with_reducible repeat (first | refine blk_drewN ?_ _ | refine blk_drew ?_ | refine blk_alloc ?_ _)); refine blk_far ?_ NB136_150.out _; (with_reducible repeat (first | refine blk_drewN ?_ _ | refine blk_drew ?_ | refine blk_alloc ?_ _)); refine blk_far ?_ NB136_150.out _; (with_reducible repeat (first | refine blk_drewN ?_ _ | refine blk_drew ?_ | refine blk_alloc ?_ _)); refine blk_far ?_ NB136_150.out _; (with_reducible repeat (first | refine blk_drewN ?_ _ | refine blk_drew ?_ | refine blk_alloc ?_ _)); refine blk_far ?_ NB136_149.out _; (with_reducible repeat (first | refine blk_drewN ?_ _ | refine blk_drew ?_ | refine blk_alloc ?_ _)); refine blk_far ?_ NB136_149.out _; (with_reducible repeat (first | refine blk_drewN ?_ _ | refine blk_drew ?_ | refine blk_alloc ?_ _)); refine blk_far ?_ NB136_149.out _; (with_reducible repeat (first | refine blk_drewN ?_ _ | refine blk_drew ?_ | refine blk_alloc ?_ _)); refine blk_far ?_ NB136_149.out _; (with_reducible repeat (first | refine blk_drewN ?_ _ | refine blk_drew ?_ | refine blk_alloc ?_ _)); exact BK136.out) hb); have n2_ := Aside0.mk (blk_below (g := gb137) (o := .cells #[.int .i64 a2_0, .int .i64 a2_1] 42 (0, 0)) (by (with_reducible repeat (first | refine blk_drewN ?_ _ | refine blk_drew ?_ | refine blk_alloc ?_ _)); refine blk_far ?_ NB137_150.out _; (with_reducible repeat (first | refine blk_drewN ?_ _ | refine blk_drew ?_ | refine blk_alloc ?_ _)); refine blk_far ?_ NB137_150.out _; (with_reducible repeat (first | refine blk_drewN ?_ _ | refine blk_drew ?_ | refine blk_alloc ?_ _)); refine blk_far ?_ NB137_150.out _; (with_reducible repeat (first | refine blk_drewN ?_ _ | refine blk_drew ?_ | refine blk_alloc ?_ _)); refine blk_far ?_ NB137_150.out _; (with_reducible repeat (first | refine blk_drewN ?_ _ | refine blk_drew ?_ | refine blk_alloc ?_ _)); refine blk_far ?_ NB137_149.out _; (with_reducible repeat (first | refine blk_drewN ?_ _ | refine blk_drew ?_ | refine blk_alloc ?_ _)); refine blk_far ?_ NB137_149.out _; (with_reducible repeat (first | refine blk_drewN ?_ _ | refine blk_drew ?_ | refine blk_alloc ?_ _)); refine blk_far ?_ NB137_149.out _; (with_reducible repeat (first | refine blk_drewN ?_ _ | refine blk_drew ?_ | refine blk_alloc ?_ _)); refine blk_far ?_ NB137_149.out _; (with_reducible repeat (first | refine blk_drewN ?_ _ | refine blk_drew ?_ | refine blk_alloc ?_ _)); exact BK137.out) hb); have n3_ := Aside0.mk (blk_below (g := gb149) (o := .cells #[.int .i64 t141, .int .i64 t142, .int .i64 t143, .int .i64 t144] 85 (0, 0)) (by (with_reducible repeat (first | refine blk_drewN ?_ _ | refine blk_drew ?_ | refine blk_alloc ?_ _)); refine blk_far ?_ NB149_150.out _; (with_reducible repeat (first | refine blk_drewN ?_ _ | refine blk_drew ?_ | refine blk_alloc ?_ _)); refine blk_far ?_ NB149_150.out _; (with_reducible repeat (first | refine blk_drewN ?_ _ | refine blk_drew ?_ | refine blk_alloc ?_ _)); refine blk_far ?_ NB149_150.out _; (with_reducible repeat (first | refine blk_drewN ?_ _ | refine blk_drew ?_ | refine blk_alloc ?_ _)); refine blk_far ?_ NB149_150.out _; (with_reducible repeat (first | refine blk_drewN ?_ _ | refine blk_drew ?_ | refine blk_alloc ?_ _)); refine blk_put (cs := #[.int .i64 t141, .int .i64 t142, .int .i64 t143, .int .i64 0]) ?_ 3 _ rfl; (with_reducible repeat (first | refine blk_drewN ?_ _ | refine blk_drew ?_ | refine blk_alloc ?_ _)); refine blk_put (cs := #[.int .i64 t141, .int .i64 t142, .int .i64 0, .int .i64 0]) ?_ 2 _ rfl; (with_reducible repeat (first | refine blk_drewN ?_ _ | refine blk_drew ?_ | refine blk_alloc ?_ _)); refine blk_put (cs := #[.int .i64 t141, .int .i64 0, .int .i64 0, .int .i64 0]) ?_ 1 _ rfl; (with_reducible repeat (first | refine blk_drewN ?_ _ | refine blk_drew ?_ | refine blk_alloc ?_ _)); refine blk_put (cs := #[.int .i64 0, .int .i64 0, .int .i64 0, .int .i64 0]) ?_ 0 _ rfl; (with_reducible repeat (first | refine blk_drewN ?_ _ | refine blk_drew ?_ | refine blk_alloc ?_ _)); exact BK149.out) hb); have n4_ := Aside0.mk (blk_below (g := gb150) (o := .cells #[.int .i64 t145, .int .i64 t146, .int .i64 t147, .int .i64 t148] 85 (0, 0)) (by (with_reducible repeat (first | refine blk_drewN ?_ _ | refine blk_drew ?_ | refine blk_alloc ?_ _)); refine blk_put (cs := #[.int .i64 t145, .int .i64 t146, .int .i64 t147, .int .i64 0]) ?_ 3 _ rfl; (with_reducible repeat (first | refine blk_drewN ?_ _ | refine blk_drew ?_ | refine blk_alloc ?_ _)); refine blk_put (cs := #[.int .i64 t145, .int .i64 t146, .int .i64 0, .int .i64 0]) ?_ 2 _ rfl; (with_reducible repeat (first | refine blk_drewN ?_ _ | refine blk_drew ?_ | refine blk_alloc ?_ _)); refine blk_put (cs := #[.int .i64 t145, .int .i64 0, .int .i64 0, .int .i64 0]) ?_ 1 _ rfl; (with_reducible repeat (first | refine blk_drewN ?_ _ | refine blk_drew ?_ | refine blk_alloc ?_ _)); refine blk_put (cs := #[.int .i64 0, .int .i64 0, .int .i64 0, .int .i64 0]) ?_ 0 _ rfl; (with_reducible repeat (first | refine blk_drewN ?_ _ | refine blk_drew ?_ | refine blk_alloc ?_ _)); refine blk_far ?_ NB150_149.out _; (with_reducible repeat (first | refine blk_drewN ?_ _ | refine blk_drew ?_ | refine blk_alloc ?_ _)); refine blk_far ?_ NB150_149.out _; (with_reducible repeat (first | refine blk_drewN ?_ _ | refine blk_drew ?_ | refine blk_alloc ?_ _)); refine blk_far ?_ NB150_149.out _; (with_reducible repeat (first | refine blk_drewN ?_ _ | refine blk_drew ?_ | refine blk_alloc ?_ _)); refine blk_far ?_ NB150_149.out _; (with_reducible repeat (first | refine blk_drewN ?_ _ | refine blk_drew ?_ | refine blk_alloc ?_ _)); exact BK150.out) hb); have n5_ := Aside0.mk (below_step (xs HB.out) hb); clear BK135; clear BK136; clear BK137; clear BK149; clear BK150; clear HB; have BK135 := n0_; have BK136 := n1_; have BK137 := n2_; have BK149 := n3_; have BK150 := n4_; have HB := n5_; clear n0_ n1_ n2_ n3_ n4_ n5_; (try clear hb); (try clear hb2); (try clear hk); (try clear hi)))
                go_ret3
                exact ⟨by first | rfl | (simp [errW_none, errW_some] <;> rfl) | (simp [*, errW_none, errW_some] <;> rfl), by repeat (first | (with_reducible first | exact HB.out | apply below_alloc | apply pw_below_drewN | apply below_drew1 | refine below_set ?_ GE135.out | refine below_set ?_ GE136.out | refine below_set ?_ GE137.out | refine below_set ?_ GE149.out | refine below_set ?_ GE150.out) | exact HB.out)⟩

end Go.Proofs.Ytpgjoagbmljmnaa.PFnExactBlendAmounts

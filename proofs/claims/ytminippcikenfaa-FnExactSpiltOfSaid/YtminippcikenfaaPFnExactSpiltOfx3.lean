/- Lean functions of the Go functions that the law FnExactSpiltOf reaches, and the proofs that the calls come to what they say (made by program). -/
import Derived.Test.YtminippcikenfaaAb
import Derived.Test.YtminippcikenfaaPFnExactSpiltOfx0
import Derived.Test.YtminippcikenfaaPFnExactSpiltOfx2
namespace Go.Proofs.Ytminippcikenfaa.PFnExactSpiltOf
open Go.RowKit Go.Proofs.YtminippcikenfaaW.PrintWords Go.Proofs.YtminippcikenfaaW.PrintLast Go.Proofs.YtminippcikenfaaW.PrintMore Go.Proofs.Ytminippcikenfaa.Ab
attribute [local go_sem] max2_int min2_int max_two min_two max_three min_three max_four min_four   -- for this text's walks alone
set_option linter.unusedVariables false
set_option linter.unusedSimpArgs false

/-! ### impl_Siphon_run: function 55 -/
def impl_Siphon_run.l0 : Nat → List Int → Int → Int → Int → Int → Int → Int → Int → Bool → List (S31) → List Int → List Int → Option ((List (S31)) × List Int × List Int)
  | 0, _, _, _, _, _, _, _, _, _, _, _, _ => none
  | k + 1, x16, x17, x18, x176000, x176001, x176002, x176003, x177000, x177001, x182000, x182001, x182002 => if x18 < x17 then (if 0 ≤ x18 then (if x18 < (x16.length : Int) then ((impl_Siphon_tick.f x176000 x176001 x176002 x176003 x177000 x177001 (rd x16 x18)).bind fun bt183 => ((some (([(⟨bt183.1, bt183.2.1⟩ : S31)] : List (S31)) : List (S31))).bind fun y188 => (if x182000.length + y188.length < 8796093022208 then ((some (([bt183.2.2.1] : List Int) : List Int)).bind fun y194 => (if x182001.length + y194.length < 17592186044416 then ((some (([bt183.2.2.2] : List Int) : List Int)).bind fun y200 => (if x182002.length + y200.length < 17592186044416 then (impl_Siphon_run.l0 k x16 x17 (wrap64 (x18 + 1)) x176000 x176001 x176002 x176003 bt183.1 bt183.2.1 (x182000 ++ y188) (x182001 ++ y194) (x182002 ++ y200)) else (none))) else (none))) else (none)))) else (none)) else (none)) else (some (x182000, x182001, x182002))
def impl_Siphon_run.f (k : Nat) (a0_0 : Int) (a0_1 : Int) (a0_2 : Int) (a0_3 : Int) (a1_0 : Int) (a1_1 : Bool) (l2 : List Int) : Option ((List (S31)) × List Int × List Int) := impl_Siphon_run.l0 k l2 (l2.length : Int) 0 a0_0 a0_1 a0_2 a0_3 a1_0 a1_1 (([(⟨a1_0, a1_1⟩ : S31)] : List (S31))) ([] : List Int) ([] : List Int)
theorem impl_Siphon_run.mono_l : ∀ k, (∀ y0 y1 y2 y3 y4 y5 y6 y7 y8 y9 y10 y11, LeO (impl_Siphon_run.l0 k y0 y1 y2 y3 y4 y5 y6 y7 y8 y9 y10 y11) (impl_Siphon_run.l0 (k + 1) y0 y1 y2 y3 y4 y5 y6 y7 y8 y9 y10 y11))
  | 0 => fun _ _ _ _ _ _ _ _ _ _ _ _ r h => by simp [impl_Siphon_run.l0] at h
  | k + 1 => by
    have ih0 := impl_Siphon_run.mono_l k
    · intro y0 y1 y2 y3 y4 y5 y6 y7 y8 y9 y10 y11
      unfold impl_Siphon_run.l0
      repeat' first
      | (with_reducible exact ih0 _ _ _ _ _ _ _ _ _ _ _ _)
      | (with_reducible exact LeO.refl _)
      | (with_reducible exact LeO.none _)
      | (with_reducible refine LeO.ite ?_ ?_)
      | (with_reducible refine LeO.bind ?_ (fun _ => ?_))
      | exact ih0 _ _ _ _ _ _ _ _ _ _ _ _
      | exact LeO.none _
      | refine LeO.ite ?_ ?_
      | refine LeO.bind ?_ (fun _ => ?_)
theorem impl_Siphon_run.mono : ∀ a0 a1 a2 a3 a4 a5 a6 k, LeO (impl_Siphon_run.f k a0 a1 a2 a3 a4 a5 a6) (impl_Siphon_run.f (k + 1) a0 a1 a2 a3 a4 a5 a6) := by
  intro a0 a1 a2 a3 a4 a5 a6 k
  have ih0 := impl_Siphon_run.mono_l k
  unfold impl_Siphon_run.f
  repeat' first
      | (with_reducible exact ih0 _ _ _ _ _ _ _ _ _ _ _ _)
      | (with_reducible exact LeO.refl _)
      | (with_reducible exact LeO.none _)
      | (with_reducible refine LeO.ite ?_ ?_)
      | (with_reducible refine LeO.bind ?_ (fun _ => ?_))
      | exact ih0 _ _ _ _ _ _ _ _ _ _ _ _
      | exact LeO.none _
      | refine LeO.ite ?_ ?_
      | refine LeO.bind ?_ (fun _ => ?_)
def impl_Siphon_run.T6 : Bool × List (List Nat × List Nat) := (true, [([], []), ([0], [0]), ([], []), ([2], [2]), ([1, 3], [1, 3]), ([], []), ([5], [5]), ([], []), ([7], [7]), ([6, 8, 4], [6, 8]), ([], []), ([10], [10]), ([], []), ([12], [12]), ([11, 13, 9], [11, 13]), ([0, 1, 2, 3, 4, 5, 6, 10, 11], []), ([15, 4, 14, 0, 1, 2, 3, 4, 5, 6, 10, 11], [4, 15]), ([0, 1, 2, 3, 4, 5, 6, 7, 8, 9, 10, 11, 15, 16], []), ([17, 9, 16, 0, 1, 2, 3, 4, 5, 6, 7, 8, 9, 10, 11, 15, 16], [9, 17]), ([0, 1, 2, 3, 4, 5, 6, 7, 8, 9, 10, 11, 12, 13, 14, 15, 16, 17, 18], []), ([19, 14, 18, 0, 1, 2, 3, 4, 5, 6, 7, 8, 9, 10, 11, 12, 13, 14, 15, 16, 17, 18], [14, 19])])
def impl_Siphon_run.B6 : List Nat := [0, 1, 0, 4, 15, 0, 32, 0, 128, 511, 0, 1024, 0, 4096, 16383, 3199, 65535, 131071, 262143, 524287, 1048575]
theorem impl_Siphon_run.tab6 : rtab .any (opsOf Try.f55 6) = impl_Siphon_run.T6 := by kernel_rfl
theorem impl_Siphon_run.bits6 : waitsOk impl_Siphon_run.T6.2 impl_Siphon_run.B6 = true := by kernel_rfl
set_option maxHeartbeats 8000000 in
set_option maxRecDepth 100000 in
theorem impl_Siphon_run.calls (k : Nat) (a0_0 : Int) (a0_1 : Int) (a0_2 : Int) (a0_3 : Int) (a1_0 : Int) (a1_1 : Bool) (A2 : Option Addr) (c2 : Nat) (l2 : List Int) (r1 : List (S31)) (r2 : List Int) (r3 : List Int) (w : World) (hr2 : Kd.C (Kd.int .i64) w A2 l2.length l2) (hc2 : l2.length ≤ c2) (h : impl_Siphon_run.f k a0_0 a0_1 a0_2 a0_3 a1_0 a1_1 l2 = some (r1, r2, r3)) :
    Calls Try.prog 55 #[.agg #[.int .i64 a0_0, .int .i64 a0_1, .int .i64 a0_2, .int .i64 a0_3], .agg #[.int .i64 a1_0, .bool a1_1], .slice A2 l2.length c2] w fun e w' => ∃ v0_ v1_ v2_ : Value, e = .returned (.agg #[v0_, v1_, v2_]) ∧ Kd.R k31 31 w' w.heap.size (fun _ => True) v0_ r1 ∧ Kd.R (Kd.int .i64) 3 w' w.heap.size (fun k_ => some k_ ≠ (v2_ : Value).ownBlock) v1_ r2 ∧ Kd.R (Kd.int .i64) 3 w' w.heap.size (fun k_ => some k_ ≠ (v1_ : Value).ownBlock) v2_ r3 ∧ Below w.heap.size w w' := by
  have hu29 := Try.underlying29
  have hu31 := Try.underlying31
  have hu92 := Try.underlying92
  have HR2 := Aside0.mk hr2
  have HC2 := Aside0.mk hc2
  clear hr2 hc2
  have HB := Aside0.mk (Below.refl w.heap.size w)
  have H : (impl_Siphon_run.l0 k l2 (l2.length : Int) 0 a0_0 a0_1 a0_2 a0_3 a1_0 a1_1 (([(⟨a1_0, a1_1⟩ : S31)] : List (S31))) ([] : List Int) ([] : List Int)) = some (r1, r2, r3) := h
  clear h
  obtain ⟨y178, hy178⟩ : ∃ y_ : List (S31), y_ = (([(⟨a1_0, a1_1⟩ : S31)] : List (S31))) := ⟨_, rfl⟩
  replace H : (impl_Siphon_run.l0 k l2 (l2.length : Int) 0 a0_0 a0_1 a0_2 a0_3 a1_0 a1_1 y178 ([] : List Int) ([] : List Int)) = some (r1, r2, r3) := by first | (rw [hy178]; with_reducible exact H) | (have H2_ := (Option.bind_some _ _).symm.trans H; rw [hy178]; with_reducible exact H2_) | (have H2_ := (Option.bind_some _ _).symm.trans H; with_reducible exact H2_) | with_reducible exact H | (rw [hy178]; exact H) | exact H
  have Ny178 := Aside0.mk hy178
  clear hy178
  have H' := Aside0.mk H
  clear H
  go_enter Try.func55, Try.ntmps55
  go_wp2_with (first | ((with_reducible refine gate_dst (N := 3) rfl ?_); refine box_event ?hg (N := 3) ?hd (cs := #[.int .i64 a0_0, .int .i64 a0_1, .int .i64 a0_2, .int .i64 a0_3]) (t := 29) ?hr ?_; (case hd => rfl); (case hg => rfl); (case hr => first | (go_simp; done) | (go_simp; rfl)); intro gb175 hg w4 hbox hb; have n0_ := Aside0.mk (below_step (xs HB.out) hb); have n1_ := Aside0.mk (hbox); have n2_ := Aside0.mk ((by rw [hg]; exact (below_size (xs HB.out)) : w.heap.size ≤ gb175)); have n3_ := Aside0.mk ((by rw [hg]; exact (below_size (xs HB.out)) : w.heap.size ≤ gb175)); clear HB; have HB := n0_; have BK175 := n1_; have GW175 := n2_; have GE175 := n3_; clear n0_ n1_ n2_ n3_; clear hb hbox hg) | ((with_reducible refine gate_dst (N := 4) rfl ?_); refine box_event ?hg (N := 4) ?hd (cs := #[.int .i64 a1_0, .bool a1_1]) (t := 31) ?hr ?_; (case hd => rfl); (case hg => rfl); (case hr => first | (go_simp; done) | (go_simp; rfl)); intro gb176 hg w5 hbox hb; have n0_ := Aside0.mk (blk_below (g := gb175) (o := .cells #[.int .i64 a0_0, .int .i64 a0_1, .int .i64 a0_2, .int .i64 a0_3] 29 (0, 0)) (xb BK175.out) hb); have n1_ := Aside0.mk (below_step (xs HB.out) hb); have n2_ := Aside0.mk (hbox); have n3_ := Aside0.mk ((by rw [hg]; exact (below_size (xs HB.out)) : w.heap.size ≤ gb176)); have n4_ := Aside0.mk ((by rw [hg]; exact (below_size (xs HB.out)) : w.heap.size ≤ gb176)); have n5_ := Aside0.mk ((by rw [hg]; exact Nat.ne_of_lt (blk_lt (g := gb175) (o := .cells #[.int .i64 a0_0, .int .i64 a0_1, .int .i64 a0_2, .int .i64 a0_3] 29 (0, 0)) (xb BK175.out)) : gb175 ≠ gb176)); have n6_ := Aside0.mk ((by rw [hg]; exact Nat.ne_of_gt (blk_lt (g := gb175) (o := .cells #[.int .i64 a0_0, .int .i64 a0_1, .int .i64 a0_2, .int .i64 a0_3] 29 (0, 0)) (xb BK175.out)) : gb176 ≠ gb175)); clear BK175; clear HB; have BK175 := n0_; have HB := n1_; have BK176 := n2_; have GW176 := n3_; have GE176 := n4_; have NB175_176 := n5_; have NB176_175 := n6_; clear n0_ n1_ n2_ n3_ n4_ n5_ n6_; clear hb hbox hg) | ((with_reducible refine gate_dst (N := 6) rfl ?_); refine box_event ?hg (N := 6) ?hd (cs := #[.slice none 0 0, .slice none 0 0, .slice none 0 0]) (t := 92) ?hr ?_; (case hd => rfl); (case hg => rfl); (case hr => first | (go_simp; done) | (go_simp; rfl)); intro gb177 hg w6 hbox hb; have n0_ := Aside0.mk (blk_below (g := gb175) (o := .cells #[.int .i64 a0_0, .int .i64 a0_1, .int .i64 a0_2, .int .i64 a0_3] 29 (0, 0)) (xb BK175.out) hb); have n1_ := Aside0.mk (blk_below (g := gb176) (o := .cells #[.int .i64 a1_0, .bool a1_1] 31 (0, 0)) (xb BK176.out) hb); have n2_ := Aside0.mk (below_step (xs HB.out) hb); have n3_ := Aside0.mk (hbox); have n4_ := Aside0.mk ((by rw [hg]; exact (below_size (xs HB.out)) : w.heap.size ≤ gb177)); have n5_ := Aside0.mk ((by rw [hg]; exact (below_size (xs HB.out)) : w.heap.size ≤ gb177)); have n6_ := Aside0.mk ((by rw [hg]; exact Nat.ne_of_lt (blk_lt (g := gb175) (o := .cells #[.int .i64 a0_0, .int .i64 a0_1, .int .i64 a0_2, .int .i64 a0_3] 29 (0, 0)) (xb BK175.out)) : gb175 ≠ gb177)); have n7_ := Aside0.mk ((by rw [hg]; exact Nat.ne_of_gt (blk_lt (g := gb175) (o := .cells #[.int .i64 a0_0, .int .i64 a0_1, .int .i64 a0_2, .int .i64 a0_3] 29 (0, 0)) (xb BK175.out)) : gb177 ≠ gb175)); have n8_ := Aside0.mk ((by rw [hg]; exact Nat.ne_of_lt (blk_lt (g := gb176) (o := .cells #[.int .i64 a1_0, .bool a1_1] 31 (0, 0)) (xb BK176.out)) : gb176 ≠ gb177)); have n9_ := Aside0.mk ((by rw [hg]; exact Nat.ne_of_gt (blk_lt (g := gb176) (o := .cells #[.int .i64 a1_0, .bool a1_1] 31 (0, 0)) (xb BK176.out)) : gb177 ≠ gb176)); clear BK175; clear BK176; clear HB; have BK175 := n0_; have BK176 := n1_; have HB := n2_; have BK177 := n3_; have GW177 := n4_; have GE177 := n5_; have NB175_177 := n6_; have NB177_175 := n7_; have NB176_177 := n8_; have NB177_176 := n9_; clear n0_ n1_ n2_ n3_ n4_ n5_ n6_ n7_ n8_ n9_; clear hb hbox hg; have hnb7 := NB176_175.out; have hnc7 := NB175_176.out; have hnb8 := NB176_177.out; have hnc8 := NB177_176.out; have hcz9_0 : w6.cell? ⟨gb176, 0, none⟩ = some (.int .i64 a1_0) := (blk_cell BK176.out 0).trans rfl; have hcz9_1 : w6.cell? ⟨gb176, 1, none⟩ = some (.bool a1_1) := (blk_cell BK176.out 1).trans rfl; have hfz9_0 := blk_frozen BK176.out 0; have hfz9_1 := blk_frozen BK176.out 1) | ((with_reducible refine gate_dst (N := 14) rfl ?_); refine Kd.R_lit k31 _ 31 ?hg (N := 14) ?hd (xs := ([(⟨a1_0, a1_1⟩ : S31)] : List (S31))) (inner := [.int .i64 a1_0, .bool a1_1]) (ok := fun _ => True) (okp := fun _ => True) ?hr ?hp (fun _ hk => hk) trivial (Below.refl _ _) (Nat.le_refl _) (by simp) ?_; (case hd => rfl); (case hg => rfl); (case hr => first | (go_simp; done) | (go_simp; rfl)); (case hp => exact (Reps.c2 (show Kd.M k31 _ _ _ (⟨a1_0, a1_1⟩ : S31) [.int .i64 a1_0, .bool a1_1] from (k31_mkM _ _ _ (⟨a1_0, a1_1⟩ : S31) )) (Reps.none _ _))); intro v179 w10 ho11 hb hg_ hnew_; clear hg_ hnew_; (first | rw [← Ny178.out] at ho11 | (simp only [Int.reduceToNat] at ho11; rw [← Ny178.out] at ho11)); have n0_ := Aside0.mk (Kd.R_lower (Kd.R_newB ho11 (g := gb176) (o := .cells #[.int .i64 a1_0, .bool a1_1] 31 (0, 0)) (xb BK176.out)) (below_size (xs HB.out))); have n1_ := Aside0.mk (blk_below (g := gb175) (o := .cells #[.int .i64 a0_0, .int .i64 a0_1, .int .i64 a0_2, .int .i64 a0_3] 29 (0, 0)) (xb BK175.out) hb); have n2_ := Aside0.mk (blk_below (g := gb176) (o := .cells #[.int .i64 a1_0, .bool a1_1] 31 (0, 0)) (xb BK176.out) hb); have n3_ := Aside0.mk (blk_below (g := gb177) (o := .cells #[.slice none 0 0, .slice none 0 0, .slice none 0 0] 92 (0, 0)) (xb BK177.out) hb); have n4_ := Aside0.mk (below_step (xs HB.out) hb); clear BK175; clear BK176; clear BK177; clear HB; have HO180 := n0_; have BK175 := n1_; have BK176 := n2_; have BK177 := n3_; have HB := n4_; clear n0_ n1_ n2_ n3_ n4_; clear hb ho11; obtain ⟨Ao12, co12, eo12⟩ := Kd.R_slice HO180.out; subst eo12) | ((with_reducible refine gate_dst (N := 7) rfl ?_); refine box_event ?hg (N := 7) ?hd (cs := #[.slice none 0 0, .slice none 0 0, .slice none 0 0]) (t := 92) ?hr ?_; (case hd => rfl); (case hg => rfl); (case hr => first | (go_simp; done) | (go_simp; rfl)); intro gb181 hg w13 hbox hb; have n0_ := Aside0.mk (Kd.R_below (xr HO180.out) hb); have n1_ := Aside0.mk (blk_below (g := gb175) (o := .cells #[.int .i64 a0_0, .int .i64 a0_1, .int .i64 a0_2, .int .i64 a0_3] 29 (0, 0)) (xb BK175.out) hb); have n2_ := Aside0.mk (blk_below (g := gb176) (o := .cells #[.int .i64 a1_0, .bool a1_1] 31 (0, 0)) (xb BK176.out) hb); have n3_ := Aside0.mk (blk_below (g := gb177) (o := .cells #[.slice none 0 0, .slice none 0 0, .slice none 0 0] 92 (0, 0)) (xb BK177.out) hb); have n4_ := Aside0.mk (below_step (xs HB.out) hb); have n5_ := Aside0.mk (hbox); have n6_ := Aside0.mk ((by rw [hg]; exact (below_size (xs HB.out)) : w.heap.size ≤ gb181)); have n7_ := Aside0.mk ((by rw [hg]; exact (below_size (xs HB.out)) : w.heap.size ≤ gb181)); have n8_ := Aside0.mk ((by rw [hg]; exact Nat.ne_of_lt (blk_lt (g := gb175) (o := .cells #[.int .i64 a0_0, .int .i64 a0_1, .int .i64 a0_2, .int .i64 a0_3] 29 (0, 0)) (xb BK175.out)) : gb175 ≠ gb181)); have n9_ := Aside0.mk ((by rw [hg]; exact Nat.ne_of_gt (blk_lt (g := gb175) (o := .cells #[.int .i64 a0_0, .int .i64 a0_1, .int .i64 a0_2, .int .i64 a0_3] 29 (0, 0)) (xb BK175.out)) : gb181 ≠ gb175)); have n10_ := Aside0.mk ((by rw [hg]; exact Nat.ne_of_lt (blk_lt (g := gb176) (o := .cells #[.int .i64 a1_0, .bool a1_1] 31 (0, 0)) (xb BK176.out)) : gb176 ≠ gb181)); have n11_ := Aside0.mk ((by rw [hg]; exact Nat.ne_of_gt (blk_lt (g := gb176) (o := .cells #[.int .i64 a1_0, .bool a1_1] 31 (0, 0)) (xb BK176.out)) : gb181 ≠ gb176)); have n12_ := Aside0.mk ((by rw [hg]; exact Nat.ne_of_lt (blk_lt (g := gb177) (o := .cells #[.slice none 0 0, .slice none 0 0, .slice none 0 0] 92 (0, 0)) (xb BK177.out)) : gb177 ≠ gb181)); have n13_ := Aside0.mk ((by rw [hg]; exact Nat.ne_of_gt (blk_lt (g := gb177) (o := .cells #[.slice none 0 0, .slice none 0 0, .slice none 0 0] 92 (0, 0)) (xb BK177.out)) : gb181 ≠ gb177)); clear HO180; clear BK175; clear BK176; clear BK177; clear HB; have HO180 := n0_; have BK175 := n1_; have BK176 := n2_; have BK177 := n3_; have HB := n4_; have BK181 := n5_; have GW181 := n6_; have GE181 := n7_; have NB175_181 := n8_; have NB181_175 := n9_; have NB176_181 := n10_; have NB181_176 := n11_; have NB177_181 := n12_; have NB181_177 := n13_; clear n0_ n1_ n2_ n3_ n4_ n5_ n6_ n7_ n8_ n9_ n10_ n11_ n12_ n13_; clear hb hbox hg; have hnb14 := NB181_175.out; have hnc14 := NB175_181.out; have hnb15 := NB181_176.out; have hnc15 := NB176_181.out; have hnb16 := NB181_177.out; have hnc16 := NB177_181.out; have hcz17_0 : w13.cell? ⟨gb181, 0, none⟩ = some (.slice none 0 0) := (blk_cell BK181.out 0).trans rfl; have hcz17_1 : w13.cell? ⟨gb181, 1, none⟩ = some (.slice none 0 0) := (blk_cell BK181.out 1).trans rfl; have hcz17_2 : w13.cell? ⟨gb181, 2, none⟩ = some (.slice none 0 0) := (blk_cell BK181.out 2).trans rfl; have hfz17_0 := blk_frozen BK181.out 0; have hfz17_1 := blk_frozen BK181.out 1; have hfz17_2 := blk_frozen BK181.out 2))
  go_loopg [18] k (fun kq v18 w' => ∃ (x18_1 : Int) (x177000_1 : Int) (x177001_1 : Bool) (x182000_1 : List (S31)) (x182001_1 : List Int) (x182002_1 : List Int) (u182000 : Value) (u182001 : Value) (u182002 : Value), v18 = .int .i64 x18_1 ∧ Aside0 (impl_Siphon_run.l0 kq l2 (l2.length : Int) x18_1 a0_0 a0_1 a0_2 a0_3 x177000_1 x177001_1 x182000_1 x182001_1 x182002_1 = some (r1, r2, r3)) ∧ Aside0 (kq ≤ k) ∧ Aside0 (Kd.R k31 31 w' w.heap.size (fun k_ => k_ ≠ gb176) u182000 x182000_1) ∧ Aside0 (Kd.R (Kd.int .i64) 3 w' w.heap.size (fun k_ => some k_ ≠ (u182002 : Value).ownBlock) u182001 x182001_1) ∧ Aside0 (Kd.R (Kd.int .i64) 3 w' w.heap.size (fun k_ => some k_ ≠ (u182001 : Value).ownBlock) u182002 x182002_1) ∧ Aside0 (w'.heap[gb175]? = some (.cells #[.int .i64 a0_0, .int .i64 a0_1, .int .i64 a0_2, .int .i64 a0_3] 29 (0, 0))) ∧ Aside0 (w'.heap[gb176]? = some (.cells #[.int .i64 x177000_1, .bool x177001_1] 31 (0, 0))) ∧ Aside0 (w'.heap[gb177]? = some (.cells #[(.slice none 0 0), (.slice none 0 0), (.slice none 0 0)] 92 (0, 0))) ∧ Aside0 (w'.heap[gb181]? = some (.cells #[u182000, u182001, u182002] 92 (0, 0))) ∧ Aside0 (Below w.heap.size w w'))
  case atStart => exact ⟨(0), (a1_0), (a1_1), (y178), (([] : List Int)), (([] : List Int)), (.slice Ao12 y178.length co12), (.slice none 0 0), (.slice none 0 0), (by first | rfl | (simp; done) | (simp [*]; done)), H', ⟨Nat.le_refl _⟩, ⟨by (with_reducible repeat (first | apply Kd.R_alloc | apply Kd.R_drewN | apply Kd.R_drew)); exact Kd.R_mono (Kd.R_far (p := ⟨gb181, 2, none⟩) (Kd.R_far (p := ⟨gb181, 1, none⟩) (Kd.R_far (p := ⟨gb181, 0, none⟩) (Kd.R_types HO180.out BK181.out (by decide)) (fun _ hk => hk.2) (.slice Ao12 y178.length co12)) (fun _ hk => hk.2) (.slice none 0 0)) (fun _ hk => hk.2) (.slice none 0 0)) (fun _ hk => hk.1.2)⟩, ⟨by first | exact Kd.R_nil _ _ _ _ _ | exact Kd.N_nil _ _ _ _ _ | exact Kd.V_nil _ _ _ _ _ | exact Kd.Q_nil _ _ _ _ _ | exact Kd.S_nil _ _ _ _ _⟩, ⟨by first | exact Kd.R_nil _ _ _ _ _ | exact Kd.N_nil _ _ _ _ _ | exact Kd.V_nil _ _ _ _ _ | exact Kd.Q_nil _ _ _ _ _ | exact Kd.S_nil _ _ _ _ _⟩, ⟨by (with_reducible repeat (first | refine blk_drewN ?_ _ | refine blk_drew ?_ | refine blk_alloc ?_ _)); refine blk_far ?_ NB175_181.out _; (with_reducible repeat (first | refine blk_drewN ?_ _ | refine blk_drew ?_ | refine blk_alloc ?_ _)); refine blk_far ?_ NB175_181.out _; (with_reducible repeat (first | refine blk_drewN ?_ _ | refine blk_drew ?_ | refine blk_alloc ?_ _)); refine blk_far ?_ NB175_181.out _; (with_reducible repeat (first | refine blk_drewN ?_ _ | refine blk_drew ?_ | refine blk_alloc ?_ _)); exact BK175.out⟩, ⟨by (with_reducible repeat (first | refine blk_drewN ?_ _ | refine blk_drew ?_ | refine blk_alloc ?_ _)); refine blk_far ?_ NB176_181.out _; (with_reducible repeat (first | refine blk_drewN ?_ _ | refine blk_drew ?_ | refine blk_alloc ?_ _)); refine blk_far ?_ NB176_181.out _; (with_reducible repeat (first | refine blk_drewN ?_ _ | refine blk_drew ?_ | refine blk_alloc ?_ _)); refine blk_far ?_ NB176_181.out _; (with_reducible repeat (first | refine blk_drewN ?_ _ | refine blk_drew ?_ | refine blk_alloc ?_ _)); exact BK176.out⟩, ⟨by (with_reducible repeat (first | refine blk_drewN ?_ _ | refine blk_drew ?_ | refine blk_alloc ?_ _)); refine blk_far ?_ NB177_181.out _; (with_reducible repeat (first | refine blk_drewN ?_ _ | refine blk_drew ?_ | refine blk_alloc ?_ _)); refine blk_far ?_ NB177_181.out _; (with_reducible repeat (first | refine blk_drewN ?_ _ | refine blk_drew ?_ | refine blk_alloc ?_ _)); refine blk_far ?_ NB177_181.out _; (with_reducible repeat (first | refine blk_drewN ?_ _ | refine blk_drew ?_ | refine blk_alloc ?_ _)); exact BK177.out⟩, ⟨by (with_reducible repeat (first | refine blk_drewN ?_ _ | refine blk_drew ?_ | refine blk_alloc ?_ _)); refine blk_put (cs := #[.slice Ao12 y178.length co12, .slice none 0 0, .slice none 0 0]) ?_ 2 _ rfl; (with_reducible repeat (first | refine blk_drewN ?_ _ | refine blk_drew ?_ | refine blk_alloc ?_ _)); refine blk_put (cs := #[.slice Ao12 y178.length co12, .slice none 0 0, .slice none 0 0]) ?_ 1 _ rfl; (with_reducible repeat (first | refine blk_drewN ?_ _ | refine blk_drew ?_ | refine blk_alloc ?_ _)); refine blk_put (cs := #[.slice none 0 0, .slice none 0 0, .slice none 0 0]) ?_ 0 _ rfl; (with_reducible repeat (first | refine blk_drewN ?_ _ | refine blk_drew ?_ | refine blk_alloc ?_ _)); exact BK181.out⟩, ⟨xs HB.out⟩⟩
  case round =>
    clear H'
    try clear c1
    try clear c2
    try clear p2
    try clear c5
    try clear c7
    try clear c8
    try clear c14
    try clear c15
    try clear c16
    try clear hcz17_0
    try clear hcz17_1
    try clear hcz17_2
    try clear hcz9_0
    try clear hcz9_1
    try clear hfz17_0
    try clear hfz17_1
    try clear hfz17_2
    try clear hfz9_0
    try clear hfz9_1
    obtain ⟨x18_1, x177000_1, x177001_1, x182000_1, x182001_1, x182002_1, u182000, u182001, u182002, rfl, HA, HK1, HO_182000, HO_182001, HO_182002, BK175, BK176, BK177, BK181, HB⟩ := hrel
    cases gk with
    | zero => exact absurd HA.out (by simp [impl_Siphon_run.l0])
    | succ k1 =>
      have H := HA.out
      clear HA
      simp only [impl_Siphon_run.l0] at H
      by_cases c18 : x18_1 < (l2.length : Int)
      · rw [if_pos c18] at H
        have c18b0 : decide (x18_1 < (l2.length : Int)) = true := decide_eq_true c18
        clear c18
        by_cases c19 : 0 ≤ x18_1
        · rw [if_pos c19] at H
          have c19b0 : decide (0 ≤ x18_1) = true := decide_eq_true c19
          clear c19
          by_cases c20 : x18_1 < (l2.length : Int)
          · rw [if_pos c20] at H
            have c20b0 : decide (x18_1 < (l2.length : Int)) = true := decide_eq_true c20
            clear c20
            replace H := Option.bind_eq_some_iff.mp H
            obtain ⟨⟨t183, t184, t185, t186⟩, A210, H⟩ := H
            replace H : ((some (([(⟨t183, t184⟩ : S31)] : List (S31)) : List (S31))).bind fun y188 => (if x182000_1.length + y188.length < 8796093022208 then ((some (([t185] : List Int) : List Int)).bind fun y194 => (if x182001_1.length + y194.length < 17592186044416 then ((some (([t186] : List Int) : List Int)).bind fun y200 => (if x182002_1.length + y200.length < 17592186044416 then (impl_Siphon_run.l0 k1 l2 (l2.length : Int) (wrap64 (x18_1 + 1)) a0_0 a0_1 a0_2 a0_3 t183 t184 (x182000_1 ++ y188) (x182001_1 ++ y194) (x182002_1 ++ y200)) else (none))) else (none))) else (none))) = some (r1, r2, r3) := H
            have A21 := Aside0.mk A210
            clear A210
            obtain ⟨y188, hy188⟩ : ∃ y_ : List (S31), y_ = (([(⟨t183, t184⟩ : S31)] : List (S31))) := ⟨_, rfl⟩
            replace H : (if x182000_1.length + y188.length < 8796093022208 then ((some (([t185] : List Int) : List Int)).bind fun y194 => (if x182001_1.length + y194.length < 17592186044416 then ((some (([t186] : List Int) : List Int)).bind fun y200 => (if x182002_1.length + y200.length < 17592186044416 then (impl_Siphon_run.l0 k1 l2 (l2.length : Int) (wrap64 (x18_1 + 1)) a0_0 a0_1 a0_2 a0_3 t183 t184 (x182000_1 ++ y188) (x182001_1 ++ y194) (x182002_1 ++ y200)) else (none))) else (none))) else (none)) = some (r1, r2, r3) := by first | (rw [hy188]; with_reducible exact H) | (have H2_ := (Option.bind_some _ _).symm.trans H; rw [hy188]; with_reducible exact H2_) | (have H2_ := (Option.bind_some _ _).symm.trans H; with_reducible exact H2_) | with_reducible exact H | (rw [hy188]; exact H) | exact H
            have Ny188 := Aside0.mk hy188
            clear hy188
            by_cases c22 : x182000_1.length + y188.length < 8796093022208
            · rw [if_pos c22] at H
              have LMc22 := Aside0.mk c22
              clear c22
              obtain ⟨y191, hy191⟩ : ∃ y_ : List (S31), y_ = (x182000_1 ++ y188) := ⟨_, rfl⟩
              replace H : ((some (([t185] : List Int) : List Int)).bind fun y194 => (if x182001_1.length + y194.length < 17592186044416 then ((some (([t186] : List Int) : List Int)).bind fun y200 => (if x182002_1.length + y200.length < 17592186044416 then (impl_Siphon_run.l0 k1 l2 (l2.length : Int) (wrap64 (x18_1 + 1)) a0_0 a0_1 a0_2 a0_3 t183 t184 y191 (x182001_1 ++ y194) (x182002_1 ++ y200)) else (none))) else (none))) = some (r1, r2, r3) := by first | (rw [hy191]; with_reducible exact H) | (have H2_ := (Option.bind_some _ _).symm.trans H; rw [hy191]; with_reducible exact H2_) | (have H2_ := (Option.bind_some _ _).symm.trans H; with_reducible exact H2_) | with_reducible exact H | (rw [hy191]; exact H) | exact H
              have Ny191 := Aside0.mk hy191
              clear hy191
              obtain ⟨y194, hy194⟩ : ∃ y_ : List Int, y_ = (([t185] : List Int)) := ⟨_, rfl⟩
              replace H : (if x182001_1.length + y194.length < 17592186044416 then ((some (([t186] : List Int) : List Int)).bind fun y200 => (if x182002_1.length + y200.length < 17592186044416 then (impl_Siphon_run.l0 k1 l2 (l2.length : Int) (wrap64 (x18_1 + 1)) a0_0 a0_1 a0_2 a0_3 t183 t184 y191 (x182001_1 ++ y194) (x182002_1 ++ y200)) else (none))) else (none)) = some (r1, r2, r3) := by first | (rw [hy194]; with_reducible exact H) | (have H2_ := (Option.bind_some _ _).symm.trans H; rw [hy194]; with_reducible exact H2_) | (have H2_ := (Option.bind_some _ _).symm.trans H; with_reducible exact H2_) | with_reducible exact H | (rw [hy194]; exact H) | exact H
              have Ny194 := Aside0.mk hy194
              clear hy194
              by_cases c23 : x182001_1.length + y194.length < 17592186044416
              · rw [if_pos c23] at H
                have LMc23 := Aside0.mk c23
                clear c23
                obtain ⟨y197, hy197⟩ : ∃ y_ : List Int, y_ = (x182001_1 ++ y194) := ⟨_, rfl⟩
                replace H : ((some (([t186] : List Int) : List Int)).bind fun y200 => (if x182002_1.length + y200.length < 17592186044416 then (impl_Siphon_run.l0 k1 l2 (l2.length : Int) (wrap64 (x18_1 + 1)) a0_0 a0_1 a0_2 a0_3 t183 t184 y191 y197 (x182002_1 ++ y200)) else (none))) = some (r1, r2, r3) := by first | (rw [hy197]; with_reducible exact H) | (have H2_ := (Option.bind_some _ _).symm.trans H; rw [hy197]; with_reducible exact H2_) | (have H2_ := (Option.bind_some _ _).symm.trans H; with_reducible exact H2_) | with_reducible exact H | (rw [hy197]; exact H) | exact H
                have Ny197 := Aside0.mk hy197
                clear hy197
                obtain ⟨y200, hy200⟩ : ∃ y_ : List Int, y_ = (([t186] : List Int)) := ⟨_, rfl⟩
                replace H : (if x182002_1.length + y200.length < 17592186044416 then (impl_Siphon_run.l0 k1 l2 (l2.length : Int) (wrap64 (x18_1 + 1)) a0_0 a0_1 a0_2 a0_3 t183 t184 y191 y197 (x182002_1 ++ y200)) else (none)) = some (r1, r2, r3) := by first | (rw [hy200]; with_reducible exact H) | (have H2_ := (Option.bind_some _ _).symm.trans H; rw [hy200]; with_reducible exact H2_) | (have H2_ := (Option.bind_some _ _).symm.trans H; with_reducible exact H2_) | with_reducible exact H | (rw [hy200]; exact H) | exact H
                have Ny200 := Aside0.mk hy200
                clear hy200
                by_cases c24 : x182002_1.length + y200.length < 17592186044416
                · rw [if_pos c24] at H
                  have LMc24 := Aside0.mk c24
                  clear c24
                  obtain ⟨y203, hy203⟩ : ∃ y_ : List Int, y_ = (x182002_1 ++ y200) := ⟨_, rfl⟩
                  replace H : (impl_Siphon_run.l0 k1 l2 (l2.length : Int) (wrap64 (x18_1 + 1)) a0_0 a0_1 a0_2 a0_3 t183 t184 y191 y197 y203) = some (r1, r2, r3) := by first | (rw [hy203]; with_reducible exact H) | (have H2_ := (Option.bind_some _ _).symm.trans H; rw [hy203]; with_reducible exact H2_) | (have H2_ := (Option.bind_some _ _).symm.trans H; with_reducible exact H2_) | with_reducible exact H | (rw [hy203]; exact H) | exact H
                  have Ny203 := Aside0.mk hy203
                  clear hy203
                  have H' := Aside0.mk H
                  clear H
                  have p182 : 0 ≤ (x18_1 : Int) := of_decide_eq_true (by first | (with_reducible assumption) | assumption)
                  have q182 : x18_1 < (l2.length : Int) := of_decide_eq_true (by first | (with_reducible assumption) | assumption)
                  obtain ⟨ad182, e182, hx182_0⟩ := Kd.at_int HR2.out x18_1 p182 q182
                  cases e182
                  replace hx182_0 := (HB.out.cell (World.block_lt_of_cell? w _ hx182_0)).trans hx182_0
                  replace p182 := eq_true p182
                  replace q182 := eq_true q182
                  have hnb25 := NB175_176.out
                  have hnc25 := NB176_175.out
                  have hnb26 := NB175_177.out
                  have hnc26 := NB177_175.out
                  have hnb27 := NB175_181.out
                  have hnc27 := NB181_175.out
                  have hcz28_0 : wr.cell? ⟨gb175, 0, none⟩ = some (.int .i64 a0_0) := (blk_cell BK175.out 0).trans rfl
                  have hcz28_1 : wr.cell? ⟨gb175, 1, none⟩ = some (.int .i64 a0_1) := (blk_cell BK175.out 1).trans rfl
                  have hcz28_2 : wr.cell? ⟨gb175, 2, none⟩ = some (.int .i64 a0_2) := (blk_cell BK175.out 2).trans rfl
                  have hcz28_3 : wr.cell? ⟨gb175, 3, none⟩ = some (.int .i64 a0_3) := (blk_cell BK175.out 3).trans rfl
                  have hfz28_0 := blk_frozen BK175.out 0
                  have hfz28_1 := blk_frozen BK175.out 1
                  have hfz28_2 := blk_frozen BK175.out 2
                  have hfz28_3 := blk_frozen BK175.out 3
                  have hnb29 := NB176_177.out
                  have hnc29 := NB177_176.out
                  have hnb30 := NB176_181.out
                  have hnc30 := NB181_176.out
                  have hcz31_0 : wr.cell? ⟨gb176, 0, none⟩ = some (.int .i64 x177000_1) := (blk_cell BK176.out 0).trans rfl
                  have hcz31_1 : wr.cell? ⟨gb176, 1, none⟩ = some (.bool x177001_1) := (blk_cell BK176.out 1).trans rfl
                  have hfz31_0 := blk_frozen BK176.out 0
                  have hfz31_1 := blk_frozen BK176.out 1
                  try go_wp2_with (first | ((with_reducible refine gate_callee (f := 91) rfl ?_); refine goesL_ (some 26) rfl rfl Try.func91 (by kernel_rfl) rfl #[.agg #[.int .i64 a0_0, .int .i64 a0_1, .int .i64 a0_2, .int .i64 a0_3], .agg #[.int .i64 x177000_1, .bool x177001_1], .int .i64 (rd l2 x18_1)] rfl (by (try simp only [List.map_toArray, List.map_cons, List.map_nil]); first | done | rfl | (simp only [List.length_drop, List.length_take]; rfl)) ?_; (with_reducible refine (impl_Siphon_tick.calls a0_0 a0_1 a0_2 a0_3 x177000_1 x177001_1 (rd l2 x18_1) t183 t184 t185 t186 _ A21.out).mono ?_); rintro e w32 ⟨rfl, hb⟩; refine ⟨_, rfl, ?_⟩; have n0_ := Aside0.mk (Kd.R_below (xr HO_182000.out) hb); have n1_ := Aside0.mk (Kd.R_below (xr HO_182001.out) hb); have n2_ := Aside0.mk (Kd.R_below (xr HO_182002.out) hb); have n3_ := Aside0.mk (blk_below (g := gb175) (o := .cells #[.int .i64 a0_0, .int .i64 a0_1, .int .i64 a0_2, .int .i64 a0_3] 29 (0, 0)) (xb BK175.out) hb); have n4_ := Aside0.mk (blk_below (g := gb176) (o := .cells #[.int .i64 x177000_1, .bool x177001_1] 31 (0, 0)) (xb BK176.out) hb); have n5_ := Aside0.mk (blk_below (g := gb177) (o := .cells #[.slice none 0 0, .slice none 0 0, .slice none 0 0] 92 (0, 0)) (xb BK177.out) hb); have n6_ := Aside0.mk (blk_below (g := gb181) (o := .cells #[u182000, u182001, u182002] 92 (0, 0)) (xb BK181.out) hb); have n7_ := Aside0.mk (below_step (xs HB.out) hb); clear HO_182000; clear HO_182001; clear HO_182002; clear BK175; clear BK176; clear BK177; clear BK181; clear HB; have HO_182000 := n0_; have HO_182001 := n1_; have HO_182002 := n2_; have BK175 := n3_; have BK176 := n4_; have BK177 := n5_; have BK181 := n6_; have HB := n7_; clear n0_ n1_ n2_ n3_ n4_ n5_ n6_ n7_; (try clear hb); (try clear hb2); (try clear hk); (try clear hi)) | ((with_reducible refine gate_dst (N := 10) rfl ?_); refine box_event ?hg (N := 10) ?hd (cs := #[.int .i64 0, .bool false]) (t := 31) ?hr ?_; (case hd => rfl); (case hg => rfl); (case hr => first | (go_simp; done) | (go_simp; rfl)); intro gb187 hg w33 hbox hb; have n0_ := Aside0.mk (Kd.R_below (Kd.R_elderB (xr HO_182000.out) gb187 (Nat.le_of_eq hg.symm)) hb); have n1_ := Aside0.mk (Kd.R_below (xr HO_182001.out) hb); have n2_ := Aside0.mk (Kd.R_below (xr HO_182002.out) hb); have n3_ := Aside0.mk (blk_below (g := gb175) (o := .cells #[.int .i64 a0_0, .int .i64 a0_1, .int .i64 a0_2, .int .i64 a0_3] 29 (0, 0)) (xb BK175.out) hb); have n4_ := Aside0.mk (blk_below (g := gb176) (o := .cells #[.int .i64 x177000_1, .bool x177001_1] 31 (0, 0)) (xb BK176.out) hb); have n5_ := Aside0.mk (blk_below (g := gb177) (o := .cells #[.slice none 0 0, .slice none 0 0, .slice none 0 0] 92 (0, 0)) (xb BK177.out) hb); have n6_ := Aside0.mk (blk_below (g := gb181) (o := .cells #[u182000, u182001, u182002] 92 (0, 0)) (xb BK181.out) hb); have n7_ := Aside0.mk (below_step (xs HB.out) hb); have n8_ := Aside0.mk (hbox); have n9_ := Aside0.mk ((by rw [hg]; exact (below_size (xs HB.out)) : w.heap.size ≤ gb187)); have n10_ := Aside0.mk ((by rw [hg]; exact (below_size (xs HB.out)) : w.heap.size ≤ gb187)); have n11_ := Aside0.mk ((by rw [hg]; exact Nat.ne_of_lt (blk_lt (g := gb175) (o := .cells #[.int .i64 a0_0, .int .i64 a0_1, .int .i64 a0_2, .int .i64 a0_3] 29 (0, 0)) (xb BK175.out)) : gb175 ≠ gb187)); have n12_ := Aside0.mk ((by rw [hg]; exact Nat.ne_of_gt (blk_lt (g := gb175) (o := .cells #[.int .i64 a0_0, .int .i64 a0_1, .int .i64 a0_2, .int .i64 a0_3] 29 (0, 0)) (xb BK175.out)) : gb187 ≠ gb175)); have n13_ := Aside0.mk ((by rw [hg]; exact Nat.ne_of_lt (blk_lt (g := gb176) (o := .cells #[.int .i64 x177000_1, .bool x177001_1] 31 (0, 0)) (xb BK176.out)) : gb176 ≠ gb187)); have n14_ := Aside0.mk ((by rw [hg]; exact Nat.ne_of_gt (blk_lt (g := gb176) (o := .cells #[.int .i64 x177000_1, .bool x177001_1] 31 (0, 0)) (xb BK176.out)) : gb187 ≠ gb176)); have n15_ := Aside0.mk ((by rw [hg]; exact Nat.ne_of_lt (blk_lt (g := gb177) (o := .cells #[.slice none 0 0, .slice none 0 0, .slice none 0 0] 92 (0, 0)) (xb BK177.out)) : gb177 ≠ gb187)); have n16_ := Aside0.mk ((by rw [hg]; exact Nat.ne_of_gt (blk_lt (g := gb177) (o := .cells #[.slice none 0 0, .slice none 0 0, .slice none 0 0] 92 (0, 0)) (xb BK177.out)) : gb187 ≠ gb177)); have n17_ := Aside0.mk ((by rw [hg]; exact Nat.ne_of_lt (blk_lt (g := gb181) (o := .cells #[u182000, u182001, u182002] 92 (0, 0)) (xb BK181.out)) : gb181 ≠ gb187)); have n18_ := Aside0.mk ((by rw [hg]; exact Nat.ne_of_gt (blk_lt (g := gb181) (o := .cells #[u182000, u182001, u182002] 92 (0, 0)) (xb BK181.out)) : gb187 ≠ gb181)); clear HO_182000; clear HO_182001; clear HO_182002; clear BK175; clear BK176; clear BK177; clear BK181; clear HB; have HO_182000 := n0_; have HO_182001 := n1_; have HO_182002 := n2_; have BK175 := n3_; have BK176 := n4_; have BK177 := n5_; have BK181 := n6_; have HB := n7_; have BK187 := n8_; have GW187 := n9_; have GE187 := n10_; have NB175_187 := n11_; have NB187_175 := n12_; have NB176_187 := n13_; have NB187_176 := n14_; have NB177_187 := n15_; have NB187_177 := n16_; have NB181_187 := n17_; have NB187_181 := n18_; clear n0_ n1_ n2_ n3_ n4_ n5_ n6_ n7_ n8_ n9_ n10_ n11_ n12_ n13_ n14_ n15_ n16_ n17_ n18_; clear hb hbox hg; have hnb34 := NB187_175.out; have hnc34 := NB175_187.out; have hnb35 := NB187_176.out; have hnc35 := NB176_187.out; have hnb36 := NB187_177.out; have hnc36 := NB177_187.out; have hnb37 := NB187_181.out; have hnc37 := NB181_187.out; have hcz38_0 : w33.cell? ⟨gb187, 0, none⟩ = some (.int .i64 0) := (blk_cell BK187.out 0).trans rfl; have hcz38_1 : w33.cell? ⟨gb187, 1, none⟩ = some (.bool false) := (blk_cell BK187.out 1).trans rfl; have hfz38_0 := blk_frozen BK187.out 0; have hfz38_1 := blk_frozen BK187.out 1; obtain ⟨Ao39, co39, eo39⟩ := Kd.R_slice HO_182000.out; subst eo39; obtain ⟨Ao40, co40, eo40⟩ := Kd.R_slice HO_182001.out; subst eo40; obtain ⟨Ao41, co41, eo41⟩ := Kd.R_slice HO_182002.out; subst eo41))
                  have n0_ : Aside0 (Kd.R k31 31 ((w33.setCell ⟨gb187, 0, none⟩ (.int .i64 t183)).setCell ⟨gb187, 1, none⟩ (.bool t184)) w.heap.size (fun k_ => k_ ≠ gb176 ∧ k_ ≠ gb187) (.slice Ao39 x182000_1.length co39) x182000_1) := ⟨by (with_reducible repeat (first | apply Kd.R_alloc | apply Kd.R_drewN | apply Kd.R_drew)); exact Kd.R_mono (Kd.R_far (p := ⟨gb187, 1, none⟩) (Kd.R_far (p := ⟨gb187, 0, none⟩) (Kd.R_mono HO_182000.out (fun k_ hk => (⟨hk, hk.2⟩ : _ ∧ k_ ≠ gb187))) (fun _ hk => hk.2) (.int .i64 t183)) (fun _ hk => hk.2) (.bool t184)) (fun _ hk => ⟨hk.1.1, hk.1.2⟩)⟩
                  have n1_ : Aside0 (Kd.R (Kd.int .i64) 3 ((w33.setCell ⟨gb187, 0, none⟩ (.int .i64 t183)).setCell ⟨gb187, 1, none⟩ (.bool t184)) w.heap.size (fun k_ => some k_ ≠ (.slice Ao41 x182002_1.length co41 : Value).ownBlock) (.slice Ao40 x182001_1.length co40) x182001_1) := ⟨by (with_reducible repeat (first | apply Kd.R_alloc | apply Kd.R_drewN | apply Kd.R_drew)); exact Kd.R_mono (Kd.R_far (p := ⟨gb187, 1, none⟩) (Kd.R_far (p := ⟨gb187, 0, none⟩) (Kd.R_types HO_182001.out BK187.out (by decide)) (fun _ hk => hk.2) (.int .i64 t183)) (fun _ hk => hk.2) (.bool t184)) (fun _ hk => hk.1)⟩
                  have n2_ : Aside0 (Kd.R (Kd.int .i64) 3 ((w33.setCell ⟨gb187, 0, none⟩ (.int .i64 t183)).setCell ⟨gb187, 1, none⟩ (.bool t184)) w.heap.size (fun k_ => some k_ ≠ (.slice Ao40 x182001_1.length co40 : Value).ownBlock) (.slice Ao41 x182002_1.length co41) x182002_1) := ⟨by (with_reducible repeat (first | apply Kd.R_alloc | apply Kd.R_drewN | apply Kd.R_drew)); exact Kd.R_mono (Kd.R_far (p := ⟨gb187, 1, none⟩) (Kd.R_far (p := ⟨gb187, 0, none⟩) (Kd.R_types HO_182002.out BK187.out (by decide)) (fun _ hk => hk.2) (.int .i64 t183)) (fun _ hk => hk.2) (.bool t184)) (fun _ hk => hk.1)⟩
                  have n3_ : Aside0 (((w33.setCell ⟨gb187, 0, none⟩ (.int .i64 t183)).setCell ⟨gb187, 1, none⟩ (.bool t184)).heap[gb175]? = some (.cells #[.int .i64 a0_0, .int .i64 a0_1, .int .i64 a0_2, .int .i64 a0_3] 29 (0, 0))) := ⟨xff NB175_187.out NB175_187.out BK175.out⟩
                  have n4_ : Aside0 (((w33.setCell ⟨gb187, 0, none⟩ (.int .i64 t183)).setCell ⟨gb187, 1, none⟩ (.bool t184)).heap[gb176]? = some (.cells #[.int .i64 x177000_1, .bool x177001_1] 31 (0, 0))) := ⟨xff NB176_187.out NB176_187.out BK176.out⟩
                  have n5_ : Aside0 (((w33.setCell ⟨gb187, 0, none⟩ (.int .i64 t183)).setCell ⟨gb187, 1, none⟩ (.bool t184)).heap[gb177]? = some (.cells #[.slice none 0 0, .slice none 0 0, .slice none 0 0] 92 (0, 0))) := ⟨xff NB177_187.out NB177_187.out BK177.out⟩
                  have n6_ : Aside0 (((w33.setCell ⟨gb187, 0, none⟩ (.int .i64 t183)).setCell ⟨gb187, 1, none⟩ (.bool t184)).heap[gb181]? = some (.cells #[.slice Ao39 x182000_1.length co39, .slice Ao40 x182001_1.length co40, .slice Ao41 x182002_1.length co41] 92 (0, 0))) := ⟨xff NB181_187.out NB181_187.out BK181.out⟩
                  have n7_ : Aside0 (((w33.setCell ⟨gb187, 0, none⟩ (.int .i64 t183)).setCell ⟨gb187, 1, none⟩ (.bool t184)).heap[gb187]? = some (.cells #[.int .i64 t183, .bool t184] 31 (0, 0))) := ⟨by (with_reducible repeat (first | refine blk_drewN ?_ _ | refine blk_drew ?_ | refine blk_alloc ?_ _)); refine blk_put (cs := #[.int .i64 t183, .bool false]) ?_ 1 _ rfl; (with_reducible repeat (first | refine blk_drewN ?_ _ | refine blk_drew ?_ | refine blk_alloc ?_ _)); refine blk_put (cs := #[.int .i64 0, .bool false]) ?_ 0 _ rfl; (with_reducible repeat (first | refine blk_drewN ?_ _ | refine blk_drew ?_ | refine blk_alloc ?_ _)); exact BK187.out⟩
                  have n8_ : Aside0 (Below w.heap.size w ((w33.setCell ⟨gb187, 0, none⟩ (.int .i64 t183)).setCell ⟨gb187, 1, none⟩ (.bool t184))) := ⟨xs HB.out⟩
                  (try clear HO_182000)
                  (try clear HO_182001)
                  (try clear HO_182002)
                  (try clear BK175)
                  (try clear BK176)
                  (try clear BK177)
                  (try clear BK181)
                  (try clear BK187)
                  (try clear HB)
                  generalize ((w33.setCell ⟨gb187, 0, none⟩ (.int .i64 t183)).setCell ⟨gb187, 1, none⟩ (.bool t184)) = w42 at n0_ n1_ n2_ n3_ n4_ n5_ n6_ n7_ n8_ ⊢
                  have HO_182000 := n0_
                  have HO_182001 := n1_
                  have HO_182002 := n2_
                  have BK175 := n3_
                  have BK176 := n4_
                  have BK177 := n5_
                  have BK181 := n6_
                  have BK187 := n7_
                  have HB := n8_
                  clear n0_ n1_ n2_ n3_ n4_ n5_ n6_ n7_ n8_
                  have n0_ := Aside0.mk (Kd.R_drew HO_182000.out)
                  have n1_ := Aside0.mk (Kd.R_drew HO_182001.out)
                  have n2_ := Aside0.mk (Kd.R_drew HO_182002.out)
                  have n3_ := Aside0.mk (blk_drew BK175.out)
                  have n4_ := Aside0.mk (blk_drew BK176.out)
                  have n5_ := Aside0.mk (blk_drew BK177.out)
                  have n6_ := Aside0.mk (blk_drew BK181.out)
                  have n7_ := Aside0.mk (blk_drew BK187.out)
                  have n8_ := Aside0.mk (below_drew1 HB.out)
                  clear HO_182000
                  clear HO_182001
                  clear HO_182002
                  clear BK175
                  clear BK176
                  clear BK177
                  clear BK181
                  clear BK187
                  clear HB
                  have HO_182000 := n0_
                  have HO_182001 := n1_
                  have HO_182002 := n2_
                  have BK175 := n3_
                  have BK176 := n4_
                  have BK177 := n5_
                  have BK181 := n6_
                  have BK187 := n7_
                  have HB := n8_
                  clear n0_ n1_ n2_ n3_ n4_ n5_ n6_ n7_ n8_
                  refine start_ (n := 21) (S := fun w' => w'.cell? ⟨gb181, 0, none⟩ = some (.slice Ao39 x182000_1.length co39) ∧ w'.cell? ⟨gb181, 1, none⟩ = some (.slice Ao40 x182001_1.length co40) ∧ w'.cell? ⟨gb181, 2, none⟩ = some (.slice Ao41 x182002_1.length co41) ∧ w'.cell? ⟨gb187, 0, none⟩ = some (.int .i64 t183) ∧ w'.cell? ⟨gb187, 1, none⟩ = some (.bool t184)) (ds := [16, 18, 20]) #[false, false, false, false, false, false, false, false, false, false, false, false, false, false, false, false, false, false, false, false, false] (by kernel_rfl) rfl rfl ⟨(blk_cell BK181.out 0).trans rfl, (blk_cell BK181.out 1).trans rfl, (blk_cell BK181.out 2).trans rfl, (blk_cell BK187.out 0).trans rfl, (blk_cell BK187.out 1).trans rfl⟩ (fun hHeld => ?_); refine with_tabW impl_Siphon_run.tab6 impl_Siphon_run.bits6 (fun HT_ HW_ => ?_)
                  generalize w42.drew = w43 at HO_182000 HO_182001 HO_182002 BK175 BK176 BK177 BK181 BK187 HB hHeld ⊢
                  refine pure_ (i := 0) (N := some 30) (v := ?_) (a' := ?_) #[true, false, false, false, false, false, false, false, false, false, false, false, false, false, false, false, false, false, false, false, false] rfl rfl (any_of HT_.out (by kernel_rfl)) (fun _ _ _ h => h) (Or.inl ⟨by rfl, ?_⟩) ?_ ?_
                  rotate_left
                  · intro w'
                    go_simp
                    with_reducible rfl
                  rotate_left
                  · simp only [Act.put, List.setIfInBounds_toArray, List.set_cons_zero, List.set_cons_succ, i64_w, i32_w]
                    rfl
                  refine pure_ (i := 5) (N := some 35) (v := ?_) (a' := ?_) #[true, false, false, false, false, true, false, false, false, false, false, false, false, false, false, false, false, false, false, false, false] rfl rfl (any_of HT_.out (by kernel_rfl)) (fun _ _ _ h => h) (Or.inl ⟨by rfl, ?_⟩) ?_ ?_
                  rotate_left
                  · intro w'
                    go_simp
                    with_reducible rfl
                  rotate_left
                  · simp only [Act.put, List.setIfInBounds_toArray, List.set_cons_zero, List.set_cons_succ, i64_w, i32_w]
                    rfl
                  refine pure_ (i := 7) (N := some 37) (v := ?_) (a' := ?_) #[true, false, false, false, false, true, false, true, false, false, false, false, false, false, false, false, false, false, false, false, false] rfl rfl (any_of HT_.out (by kernel_rfl)) (fun _ _ _ h => h) (Or.inl ⟨by rfl, ?_⟩) ?_ ?_
                  rotate_left
                  · intro w'
                    go_simp
                    with_reducible rfl
                  rotate_left
                  · simp only [Act.put, List.setIfInBounds_toArray, List.set_cons_zero, List.set_cons_succ, i64_w, i32_w]
                    rfl
                  refine pure_ (i := 10) (N := some 40) (v := ?_) (a' := ?_) #[true, false, false, false, false, true, false, true, false, false, true, false, false, false, false, false, false, false, false, false, false] rfl rfl (any_of HT_.out (by kernel_rfl)) (fun _ _ _ h => h) (Or.inl ⟨by rfl, ?_⟩) ?_ ?_
                  rotate_left
                  · intro w'
                    go_simp
                    with_reducible rfl
                  rotate_left
                  · simp only [Act.put, List.setIfInBounds_toArray, List.set_cons_zero, List.set_cons_succ, i64_w, i32_w]
                    rfl
                  refine pure_ (i := 12) (N := some 42) (v := ?_) (a' := ?_) #[true, false, false, false, false, true, false, true, false, false, true, false, true, false, false, false, false, false, false, false, false] rfl rfl (any_of HT_.out (by kernel_rfl)) (fun _ _ _ h => h) (Or.inl ⟨by rfl, ?_⟩) ?_ ?_
                  rotate_left
                  · intro w'
                    go_simp
                    with_reducible rfl
                  rotate_left
                  · simp only [Act.put, List.setIfInBounds_toArray, List.set_cons_zero, List.set_cons_succ, i64_w, i32_w]
                    rfl
                  refine take_ (i := 1) (N := some 31) (v := ?_) (a' := ?_) #[true, true, false, false, false, true, false, true, false, false, true, false, true, false, false, false, false, false, false, false, false] rfl rfl (take_ofW HT_.out HW_.out (by kernel_rfl)) (fun _ _ _ h => h) (Or.inl ⟨by rfl, ?_⟩) hHeld ?_ ?_
                  rotate_left
                  · rintro w' ⟨s0, s1, s2, s3, s4⟩
                    go_simp
                    with_reducible rfl
                  rotate_left
                  · simp only [Act.put, List.setIfInBounds_toArray, List.set_cons_zero, List.set_cons_succ, i64_w, i32_w]
                    rfl
                  refine take_ (i := 2) (N := some 32) (v := ?_) (a' := ?_) #[true, true, true, false, false, true, false, true, false, false, true, false, true, false, false, false, false, false, false, false, false] rfl rfl (take_ofW HT_.out HW_.out (by kernel_rfl)) (fun _ _ _ h => h) (Or.inl ⟨by rfl, ?_⟩) hHeld ?_ ?_
                  rotate_left
                  · rintro w' ⟨s0, s1, s2, s3, s4⟩
                    go_simp
                    with_reducible rfl
                  rotate_left
                  · simp only [Act.put, List.setIfInBounds_toArray, List.set_cons_zero, List.set_cons_succ, i64_w, i32_w]
                    rfl
                  refine take_ (i := 6) (N := some 36) (v := ?_) (a' := ?_) #[true, true, true, false, false, true, true, true, false, false, true, false, true, false, false, false, false, false, false, false, false] rfl rfl (take_ofW HT_.out HW_.out (by kernel_rfl)) (fun _ _ _ h => h) (Or.inl ⟨by rfl, ?_⟩) hHeld ?_ ?_
                  rotate_left
                  · rintro w' ⟨s0, s1, s2, s3, s4⟩
                    go_simp
                    with_reducible rfl
                  rotate_left
                  · simp only [Act.put, List.setIfInBounds_toArray, List.set_cons_zero, List.set_cons_succ, i64_w, i32_w]
                    rfl
                  refine take_ (i := 11) (N := some 41) (v := ?_) (a' := ?_) #[true, true, true, false, false, true, true, true, false, false, true, true, true, false, false, false, false, false, false, false, false] rfl rfl (take_ofW HT_.out HW_.out (by kernel_rfl)) (fun _ _ _ h => h) (Or.inl ⟨by rfl, ?_⟩) hHeld ?_ ?_
                  rotate_left
                  · rintro w' ⟨s0, s1, s2, s3, s4⟩
                    go_simp
                    with_reducible rfl
                  rotate_left
                  · simp only [Act.put, List.setIfInBounds_toArray, List.set_cons_zero, List.set_cons_succ, i64_w, i32_w]
                    rfl
                  refine join_ (σ := Value × Value × Value × Value × Value) 6 #[true, true, true, true, true, true, true, true, true, true, true, true, true, true, false, true, false, false, false, false, false] (fun s_ => [(33, s_.1), (34, s_.2.1), (38, s_.2.2.1), (39, s_.2.2.2.1), (43, s_.2.2.2.2), (45, .pointer (some ⟨gb181, 0, none⟩))]) (fun s_ w' => (w'.cell? ⟨gb181, 0, none⟩ = some (.slice Ao39 x182000_1.length co39) ∧ w'.cell? ⟨gb181, 1, none⟩ = some (.slice Ao40 x182001_1.length co40) ∧ w'.cell? ⟨gb181, 2, none⟩ = some (.slice Ao41 x182002_1.length co41) ∧ w'.cell? ⟨gb187, 0, none⟩ = some (.int .i64 t183) ∧ w'.cell? ⟨gb187, 1, none⟩ = some (.bool t184)) ∧ (Kd.R k31 31 w' w.heap.size (fun k_ => some k_ ≠ (s_.2.1 : Value).ownBlock ∧ k_ ≠ gb176 ∧ k_ ≠ gb187) s_.1 y188) ∧ (Kd.R k31 31 w' w.heap.size (fun k_ => some k_ ≠ (s_.1 : Value).ownBlock ∧ k_ ≠ gb176 ∧ k_ ≠ gb187) s_.2.1 y191) ∧ (Kd.R (Kd.int .i64) 3 w' w.heap.size (fun k_ => some k_ ≠ (s_.2.2.2.1 : Value).ownBlock ∧ some k_ ≠ (s_.2.2.2.2 : Value).ownBlock ∧ some k_ ≠ (.slice Ao41 x182002_1.length co41 : Value).ownBlock) s_.2.2.1 y194) ∧ (Kd.R (Kd.int .i64) 3 w' w.heap.size (fun k_ => some k_ ≠ (s_.2.2.1 : Value).ownBlock ∧ some k_ ≠ (s_.2.2.2.2 : Value).ownBlock ∧ some k_ ≠ (.slice Ao41 x182002_1.length co41 : Value).ownBlock) s_.2.2.2.1 y197) ∧ (Kd.R (Kd.int .i64) 3 w' w.heap.size (fun k_ => some k_ ≠ (s_.2.2.1 : Value).ownBlock ∧ some k_ ≠ (s_.2.2.2.1 : Value).ownBlock ∧ some k_ ≠ (.slice Ao41 x182002_1.length co41 : Value).ownBlock) s_.2.2.2.2 y200) ∧ (Kd.R (Kd.int .i64) 3 w' w.heap.size (fun k_ => some k_ ≠ (s_.2.2.1 : Value).ownBlock ∧ some k_ ≠ (s_.2.2.2.1 : Value).ownBlock ∧ some k_ ≠ (s_.2.2.2.2 : Value).ownBlock) (.slice Ao41 x182002_1.length co41) x182002_1) ∧ (w'.heap[gb175]? = some (.cells #[.int .i64 a0_0, .int .i64 a0_1, .int .i64 a0_2, .int .i64 a0_3] 29 (0, 0))) ∧ (w'.heap[gb176]? = some (.cells #[.int .i64 x177000_1, .bool x177001_1] 31 (0, 0))) ∧ (w'.heap[gb177]? = some (.cells #[.slice none 0 0, .slice none 0 0, .slice none 0 0] 92 (0, 0))) ∧ (w'.heap[gb181]? = some (.cells #[.slice Ao39 x182000_1.length co39, .slice Ao40 x182001_1.length co40, .slice Ao41 x182002_1.length co41] 92 (0, 0))) ∧ (w'.heap[gb187]? = some (.cells #[.int .i64 t183, .bool t184] 31 (0, 0))) ∧ (Below w.heap.size w w')) ?_ ?_
                  rotate_left
                  · intro hJ3_4_8_9_13
                    refine join_ (σ := Value × Value × Value × Value) 7 #[true, true, true, true, true, true, true, true, true, true, true, true, true, false, false, true, false, false, false, false, false] (fun s_ => [(33, s_.1), (34, s_.2.1), (38, s_.2.2.1), (39, s_.2.2.2), (45, .pointer (some ⟨gb181, 0, none⟩))]) (fun s_ w' => (w'.cell? ⟨gb181, 0, none⟩ = some (.slice Ao39 x182000_1.length co39) ∧ w'.cell? ⟨gb181, 1, none⟩ = some (.slice Ao40 x182001_1.length co40) ∧ w'.cell? ⟨gb181, 2, none⟩ = some (.slice Ao41 x182002_1.length co41) ∧ w'.cell? ⟨gb187, 0, none⟩ = some (.int .i64 t183) ∧ w'.cell? ⟨gb187, 1, none⟩ = some (.bool t184)) ∧ (Kd.R k31 31 w' w.heap.size (fun k_ => some k_ ≠ (s_.2.1 : Value).ownBlock ∧ k_ ≠ gb176 ∧ k_ ≠ gb187) s_.1 y188) ∧ (Kd.R k31 31 w' w.heap.size (fun k_ => some k_ ≠ (s_.1 : Value).ownBlock ∧ k_ ≠ gb176 ∧ k_ ≠ gb187) s_.2.1 y191) ∧ (Kd.R (Kd.int .i64) 3 w' w.heap.size (fun k_ => some k_ ≠ (s_.2.2.2 : Value).ownBlock ∧ some k_ ≠ (.slice Ao41 x182002_1.length co41 : Value).ownBlock) s_.2.2.1 y194) ∧ (Kd.R (Kd.int .i64) 3 w' w.heap.size (fun k_ => some k_ ≠ (s_.2.2.1 : Value).ownBlock ∧ some k_ ≠ (.slice Ao41 x182002_1.length co41 : Value).ownBlock) s_.2.2.2 y197) ∧ (Kd.R (Kd.int .i64) 3 w' w.heap.size (fun k_ => some k_ ≠ (s_.2.2.1 : Value).ownBlock ∧ some k_ ≠ (s_.2.2.2 : Value).ownBlock) (.slice Ao41 x182002_1.length co41) x182002_1) ∧ (w'.heap[gb175]? = some (.cells #[.int .i64 a0_0, .int .i64 a0_1, .int .i64 a0_2, .int .i64 a0_3] 29 (0, 0))) ∧ (w'.heap[gb176]? = some (.cells #[.int .i64 x177000_1, .bool x177001_1] 31 (0, 0))) ∧ (w'.heap[gb177]? = some (.cells #[.slice none 0 0, .slice none 0 0, .slice none 0 0] 92 (0, 0))) ∧ (w'.heap[gb181]? = some (.cells #[.slice Ao39 x182000_1.length co39, .slice Ao40 x182001_1.length co40, .slice Ao41 x182002_1.length co41] 92 (0, 0))) ∧ (w'.heap[gb187]? = some (.cells #[.int .i64 t183, .bool t184] 31 (0, 0))) ∧ (Below w.heap.size w w')) ?_ ?_
                    rotate_left
                    · intro hJ3_4_8_9
                      refine join_ (σ := Value × Value × Value × Value) 7 #[true, true, true, true, true, true, true, true, true, false, true, true, true, true, false, true, false, false, false, false, false] (fun s_ => [(33, s_.1), (34, s_.2.1), (38, s_.2.2.1), (43, s_.2.2.2), (45, .pointer (some ⟨gb181, 0, none⟩))]) (fun s_ w' => (w'.cell? ⟨gb181, 0, none⟩ = some (.slice Ao39 x182000_1.length co39) ∧ w'.cell? ⟨gb181, 1, none⟩ = some (.slice Ao40 x182001_1.length co40) ∧ w'.cell? ⟨gb181, 2, none⟩ = some (.slice Ao41 x182002_1.length co41) ∧ w'.cell? ⟨gb187, 0, none⟩ = some (.int .i64 t183) ∧ w'.cell? ⟨gb187, 1, none⟩ = some (.bool t184)) ∧ (Kd.R k31 31 w' w.heap.size (fun k_ => some k_ ≠ (s_.2.1 : Value).ownBlock ∧ k_ ≠ gb176 ∧ k_ ≠ gb187) s_.1 y188) ∧ (Kd.R k31 31 w' w.heap.size (fun k_ => some k_ ≠ (s_.1 : Value).ownBlock ∧ k_ ≠ gb176 ∧ k_ ≠ gb187) s_.2.1 y191) ∧ (Kd.R (Kd.int .i64) 3 w' w.heap.size (fun k_ => some k_ ≠ (s_.2.2.2 : Value).ownBlock ∧ some k_ ≠ (.slice Ao40 x182001_1.length co40 : Value).ownBlock ∧ some k_ ≠ (.slice Ao41 x182002_1.length co41 : Value).ownBlock) s_.2.2.1 y194) ∧ (Kd.R (Kd.int .i64) 3 w' w.heap.size (fun k_ => some k_ ≠ (s_.2.2.1 : Value).ownBlock ∧ some k_ ≠ (.slice Ao40 x182001_1.length co40 : Value).ownBlock ∧ some k_ ≠ (.slice Ao41 x182002_1.length co41 : Value).ownBlock) s_.2.2.2 y200) ∧ (Kd.R (Kd.int .i64) 3 w' w.heap.size (fun k_ => some k_ ≠ (s_.2.2.1 : Value).ownBlock ∧ some k_ ≠ (s_.2.2.2 : Value).ownBlock ∧ some k_ ≠ (.slice Ao41 x182002_1.length co41 : Value).ownBlock) (.slice Ao40 x182001_1.length co40) x182001_1) ∧ (Kd.R (Kd.int .i64) 3 w' w.heap.size (fun k_ => some k_ ≠ (s_.2.2.1 : Value).ownBlock ∧ some k_ ≠ (s_.2.2.2 : Value).ownBlock ∧ some k_ ≠ (.slice Ao40 x182001_1.length co40 : Value).ownBlock) (.slice Ao41 x182002_1.length co41) x182002_1) ∧ (w'.heap[gb175]? = some (.cells #[.int .i64 a0_0, .int .i64 a0_1, .int .i64 a0_2, .int .i64 a0_3] 29 (0, 0))) ∧ (w'.heap[gb176]? = some (.cells #[.int .i64 x177000_1, .bool x177001_1] 31 (0, 0))) ∧ (w'.heap[gb177]? = some (.cells #[.slice none 0 0, .slice none 0 0, .slice none 0 0] 92 (0, 0))) ∧ (w'.heap[gb181]? = some (.cells #[.slice Ao39 x182000_1.length co39, .slice Ao40 x182001_1.length co40, .slice Ao41 x182002_1.length co41] 92 (0, 0))) ∧ (w'.heap[gb187]? = some (.cells #[.int .i64 t183, .bool t184] 31 (0, 0))) ∧ (Below w.heap.size w w')) ?_ ?_
                      rotate_left
                      · intro hJ3_4_8_13
                        refine join_ (σ := Value × Value × Value) 8 #[true, true, true, true, true, true, true, true, true, false, true, true, true, false, false, true, false, false, false, false, false] (fun s_ => [(33, s_.1), (34, s_.2.1), (38, s_.2.2), (45, .pointer (some ⟨gb181, 0, none⟩))]) (fun s_ w' => (w'.cell? ⟨gb181, 0, none⟩ = some (.slice Ao39 x182000_1.length co39) ∧ w'.cell? ⟨gb181, 1, none⟩ = some (.slice Ao40 x182001_1.length co40) ∧ w'.cell? ⟨gb181, 2, none⟩ = some (.slice Ao41 x182002_1.length co41) ∧ w'.cell? ⟨gb187, 0, none⟩ = some (.int .i64 t183) ∧ w'.cell? ⟨gb187, 1, none⟩ = some (.bool t184)) ∧ (Kd.R k31 31 w' w.heap.size (fun k_ => some k_ ≠ (s_.2.1 : Value).ownBlock ∧ k_ ≠ gb176 ∧ k_ ≠ gb187) s_.1 y188) ∧ (Kd.R k31 31 w' w.heap.size (fun k_ => some k_ ≠ (s_.1 : Value).ownBlock ∧ k_ ≠ gb176 ∧ k_ ≠ gb187) s_.2.1 y191) ∧ (Kd.R (Kd.int .i64) 3 w' w.heap.size (fun k_ => some k_ ≠ (.slice Ao40 x182001_1.length co40 : Value).ownBlock ∧ some k_ ≠ (.slice Ao41 x182002_1.length co41 : Value).ownBlock) s_.2.2 y194) ∧ (Kd.R (Kd.int .i64) 3 w' w.heap.size (fun k_ => some k_ ≠ (s_.2.2 : Value).ownBlock ∧ some k_ ≠ (.slice Ao41 x182002_1.length co41 : Value).ownBlock) (.slice Ao40 x182001_1.length co40) x182001_1) ∧ (Kd.R (Kd.int .i64) 3 w' w.heap.size (fun k_ => some k_ ≠ (s_.2.2 : Value).ownBlock ∧ some k_ ≠ (.slice Ao40 x182001_1.length co40 : Value).ownBlock) (.slice Ao41 x182002_1.length co41) x182002_1) ∧ (w'.heap[gb175]? = some (.cells #[.int .i64 a0_0, .int .i64 a0_1, .int .i64 a0_2, .int .i64 a0_3] 29 (0, 0))) ∧ (w'.heap[gb176]? = some (.cells #[.int .i64 x177000_1, .bool x177001_1] 31 (0, 0))) ∧ (w'.heap[gb177]? = some (.cells #[.slice none 0 0, .slice none 0 0, .slice none 0 0] 92 (0, 0))) ∧ (w'.heap[gb181]? = some (.cells #[.slice Ao39 x182000_1.length co39, .slice Ao40 x182001_1.length co40, .slice Ao41 x182002_1.length co41] 92 (0, 0))) ∧ (w'.heap[gb187]? = some (.cells #[.int .i64 t183, .bool t184] 31 (0, 0))) ∧ (Below w.heap.size w w')) ?_ ?_
                        rotate_left
                        · intro hJ3_4_8
                          refine join_ (σ := Value × Value × Value) 8 #[true, true, true, true, true, true, true, true, false, false, true, true, true, true, false, true, false, false, false, false, false] (fun s_ => [(33, s_.1), (34, s_.2.1), (43, s_.2.2), (45, .pointer (some ⟨gb181, 0, none⟩))]) (fun s_ w' => (w'.cell? ⟨gb181, 0, none⟩ = some (.slice Ao39 x182000_1.length co39) ∧ w'.cell? ⟨gb181, 1, none⟩ = some (.slice Ao40 x182001_1.length co40) ∧ w'.cell? ⟨gb181, 2, none⟩ = some (.slice Ao41 x182002_1.length co41) ∧ w'.cell? ⟨gb187, 0, none⟩ = some (.int .i64 t183) ∧ w'.cell? ⟨gb187, 1, none⟩ = some (.bool t184)) ∧ (Kd.R k31 31 w' w.heap.size (fun k_ => some k_ ≠ (s_.2.1 : Value).ownBlock ∧ k_ ≠ gb176 ∧ k_ ≠ gb187) s_.1 y188) ∧ (Kd.R k31 31 w' w.heap.size (fun k_ => some k_ ≠ (s_.1 : Value).ownBlock ∧ k_ ≠ gb176 ∧ k_ ≠ gb187) s_.2.1 y191) ∧ (Kd.R (Kd.int .i64) 3 w' w.heap.size (fun k_ => some k_ ≠ (.slice Ao40 x182001_1.length co40 : Value).ownBlock ∧ some k_ ≠ (.slice Ao41 x182002_1.length co41 : Value).ownBlock) s_.2.2 y200) ∧ (Kd.R (Kd.int .i64) 3 w' w.heap.size (fun k_ => some k_ ≠ (s_.2.2 : Value).ownBlock ∧ some k_ ≠ (.slice Ao41 x182002_1.length co41 : Value).ownBlock) (.slice Ao40 x182001_1.length co40) x182001_1) ∧ (Kd.R (Kd.int .i64) 3 w' w.heap.size (fun k_ => some k_ ≠ (s_.2.2 : Value).ownBlock ∧ some k_ ≠ (.slice Ao40 x182001_1.length co40 : Value).ownBlock) (.slice Ao41 x182002_1.length co41) x182002_1) ∧ (w'.heap[gb175]? = some (.cells #[.int .i64 a0_0, .int .i64 a0_1, .int .i64 a0_2, .int .i64 a0_3] 29 (0, 0))) ∧ (w'.heap[gb176]? = some (.cells #[.int .i64 x177000_1, .bool x177001_1] 31 (0, 0))) ∧ (w'.heap[gb177]? = some (.cells #[.slice none 0 0, .slice none 0 0, .slice none 0 0] 92 (0, 0))) ∧ (w'.heap[gb181]? = some (.cells #[.slice Ao39 x182000_1.length co39, .slice Ao40 x182001_1.length co40, .slice Ao41 x182002_1.length co41] 92 (0, 0))) ∧ (w'.heap[gb187]? = some (.cells #[.int .i64 t183, .bool t184] 31 (0, 0))) ∧ (Below w.heap.size w w')) ?_ ?_
                          rotate_left
                          · intro hJ3_4_13
                            refine join_ (σ := Value × Value × Value) 9 #[true, true, true, true, false, true, true, true, true, false, true, true, true, true, false, false, false, false, false, false, false] (fun s_ => [(33, s_.1), (38, s_.2.1), (43, s_.2.2)]) (fun s_ w' => (w'.cell? ⟨gb181, 0, none⟩ = some (.slice Ao39 x182000_1.length co39) ∧ w'.cell? ⟨gb181, 1, none⟩ = some (.slice Ao40 x182001_1.length co40) ∧ w'.cell? ⟨gb181, 2, none⟩ = some (.slice Ao41 x182002_1.length co41) ∧ w'.cell? ⟨gb187, 0, none⟩ = some (.int .i64 t183) ∧ w'.cell? ⟨gb187, 1, none⟩ = some (.bool t184)) ∧ (Kd.R k31 31 w' w.heap.size (fun k_ => some k_ ≠ (.slice Ao39 x182000_1.length co39 : Value).ownBlock ∧ k_ ≠ gb176 ∧ k_ ≠ gb187) s_.1 y188) ∧ (Kd.R (Kd.int .i64) 3 w' w.heap.size (fun k_ => some k_ ≠ (s_.2.2 : Value).ownBlock ∧ some k_ ≠ (.slice Ao40 x182001_1.length co40 : Value).ownBlock ∧ some k_ ≠ (.slice Ao41 x182002_1.length co41 : Value).ownBlock) s_.2.1 y194) ∧ (Kd.R (Kd.int .i64) 3 w' w.heap.size (fun k_ => some k_ ≠ (s_.2.1 : Value).ownBlock ∧ some k_ ≠ (.slice Ao40 x182001_1.length co40 : Value).ownBlock ∧ some k_ ≠ (.slice Ao41 x182002_1.length co41 : Value).ownBlock) s_.2.2 y200) ∧ (Kd.R k31 31 w' w.heap.size (fun k_ => some k_ ≠ (s_.1 : Value).ownBlock ∧ k_ ≠ gb176 ∧ k_ ≠ gb187) (.slice Ao39 x182000_1.length co39) x182000_1) ∧ (Kd.R (Kd.int .i64) 3 w' w.heap.size (fun k_ => some k_ ≠ (s_.2.1 : Value).ownBlock ∧ some k_ ≠ (s_.2.2 : Value).ownBlock ∧ some k_ ≠ (.slice Ao41 x182002_1.length co41 : Value).ownBlock) (.slice Ao40 x182001_1.length co40) x182001_1) ∧ (Kd.R (Kd.int .i64) 3 w' w.heap.size (fun k_ => some k_ ≠ (s_.2.1 : Value).ownBlock ∧ some k_ ≠ (s_.2.2 : Value).ownBlock ∧ some k_ ≠ (.slice Ao40 x182001_1.length co40 : Value).ownBlock) (.slice Ao41 x182002_1.length co41) x182002_1) ∧ (w'.heap[gb175]? = some (.cells #[.int .i64 a0_0, .int .i64 a0_1, .int .i64 a0_2, .int .i64 a0_3] 29 (0, 0))) ∧ (w'.heap[gb176]? = some (.cells #[.int .i64 x177000_1, .bool x177001_1] 31 (0, 0))) ∧ (w'.heap[gb177]? = some (.cells #[.slice none 0 0, .slice none 0 0, .slice none 0 0] 92 (0, 0))) ∧ (w'.heap[gb181]? = some (.cells #[.slice Ao39 x182000_1.length co39, .slice Ao40 x182001_1.length co40, .slice Ao41 x182002_1.length co41] 92 (0, 0))) ∧ (w'.heap[gb187]? = some (.cells #[.int .i64 t183, .bool t184] 31 (0, 0))) ∧ (Below w.heap.size w w')) ?_ ?_
                            rotate_left
                            · intro hJ3_8_13
                              refine join_ (σ := Value × Value) 9 #[true, true, true, true, true, true, true, true, false, false, true, true, true, false, false, true, false, false, false, false, false] (fun s_ => [(33, s_.1), (34, s_.2), (45, .pointer (some ⟨gb181, 0, none⟩))]) (fun s_ w' => (w'.cell? ⟨gb181, 0, none⟩ = some (.slice Ao39 x182000_1.length co39) ∧ w'.cell? ⟨gb181, 1, none⟩ = some (.slice Ao40 x182001_1.length co40) ∧ w'.cell? ⟨gb181, 2, none⟩ = some (.slice Ao41 x182002_1.length co41) ∧ w'.cell? ⟨gb187, 0, none⟩ = some (.int .i64 t183) ∧ w'.cell? ⟨gb187, 1, none⟩ = some (.bool t184)) ∧ (Kd.R k31 31 w' w.heap.size (fun k_ => some k_ ≠ (s_.2 : Value).ownBlock ∧ k_ ≠ gb176 ∧ k_ ≠ gb187) s_.1 y188) ∧ (Kd.R k31 31 w' w.heap.size (fun k_ => some k_ ≠ (s_.1 : Value).ownBlock ∧ k_ ≠ gb176 ∧ k_ ≠ gb187) s_.2 y191) ∧ (Kd.R (Kd.int .i64) 3 w' w.heap.size (fun k_ => some k_ ≠ (.slice Ao41 x182002_1.length co41 : Value).ownBlock) (.slice Ao40 x182001_1.length co40) x182001_1) ∧ (Kd.R (Kd.int .i64) 3 w' w.heap.size (fun k_ => some k_ ≠ (.slice Ao40 x182001_1.length co40 : Value).ownBlock) (.slice Ao41 x182002_1.length co41) x182002_1) ∧ (w'.heap[gb175]? = some (.cells #[.int .i64 a0_0, .int .i64 a0_1, .int .i64 a0_2, .int .i64 a0_3] 29 (0, 0))) ∧ (w'.heap[gb176]? = some (.cells #[.int .i64 x177000_1, .bool x177001_1] 31 (0, 0))) ∧ (w'.heap[gb177]? = some (.cells #[.slice none 0 0, .slice none 0 0, .slice none 0 0] 92 (0, 0))) ∧ (w'.heap[gb181]? = some (.cells #[.slice Ao39 x182000_1.length co39, .slice Ao40 x182001_1.length co40, .slice Ao41 x182002_1.length co41] 92 (0, 0))) ∧ (w'.heap[gb187]? = some (.cells #[.int .i64 t183, .bool t184] 31 (0, 0))) ∧ (Below w.heap.size w w')) ?_ ?_
                              rotate_left
                              · intro hJ3_4
                                refine join_ (σ := Value × Value) 10 #[true, true, true, true, false, true, true, true, true, false, true, true, true, false, false, false, false, false, false, false, false] (fun s_ => [(33, s_.1), (38, s_.2)]) (fun s_ w' => (w'.cell? ⟨gb181, 0, none⟩ = some (.slice Ao39 x182000_1.length co39) ∧ w'.cell? ⟨gb181, 1, none⟩ = some (.slice Ao40 x182001_1.length co40) ∧ w'.cell? ⟨gb181, 2, none⟩ = some (.slice Ao41 x182002_1.length co41) ∧ w'.cell? ⟨gb187, 0, none⟩ = some (.int .i64 t183) ∧ w'.cell? ⟨gb187, 1, none⟩ = some (.bool t184)) ∧ (Kd.R k31 31 w' w.heap.size (fun k_ => some k_ ≠ (.slice Ao39 x182000_1.length co39 : Value).ownBlock ∧ k_ ≠ gb176 ∧ k_ ≠ gb187) s_.1 y188) ∧ (Kd.R (Kd.int .i64) 3 w' w.heap.size (fun k_ => some k_ ≠ (.slice Ao40 x182001_1.length co40 : Value).ownBlock ∧ some k_ ≠ (.slice Ao41 x182002_1.length co41 : Value).ownBlock) s_.2 y194) ∧ (Kd.R k31 31 w' w.heap.size (fun k_ => some k_ ≠ (s_.1 : Value).ownBlock ∧ k_ ≠ gb176 ∧ k_ ≠ gb187) (.slice Ao39 x182000_1.length co39) x182000_1) ∧ (Kd.R (Kd.int .i64) 3 w' w.heap.size (fun k_ => some k_ ≠ (s_.2 : Value).ownBlock ∧ some k_ ≠ (.slice Ao41 x182002_1.length co41 : Value).ownBlock) (.slice Ao40 x182001_1.length co40) x182001_1) ∧ (Kd.R (Kd.int .i64) 3 w' w.heap.size (fun k_ => some k_ ≠ (s_.2 : Value).ownBlock ∧ some k_ ≠ (.slice Ao40 x182001_1.length co40 : Value).ownBlock) (.slice Ao41 x182002_1.length co41) x182002_1) ∧ (w'.heap[gb175]? = some (.cells #[.int .i64 a0_0, .int .i64 a0_1, .int .i64 a0_2, .int .i64 a0_3] 29 (0, 0))) ∧ (w'.heap[gb176]? = some (.cells #[.int .i64 x177000_1, .bool x177001_1] 31 (0, 0))) ∧ (w'.heap[gb177]? = some (.cells #[.slice none 0 0, .slice none 0 0, .slice none 0 0] 92 (0, 0))) ∧ (w'.heap[gb181]? = some (.cells #[.slice Ao39 x182000_1.length co39, .slice Ao40 x182001_1.length co40, .slice Ao41 x182002_1.length co41] 92 (0, 0))) ∧ (w'.heap[gb187]? = some (.cells #[.int .i64 t183, .bool t184] 31 (0, 0))) ∧ (Below w.heap.size w w')) ?_ ?_
                                rotate_left
                                · intro hJ3_8
                                  refine join_ (σ := Value × Value) 10 #[true, true, true, true, false, true, true, true, false, false, true, true, true, true, false, false, false, false, false, false, false] (fun s_ => [(33, s_.1), (43, s_.2)]) (fun s_ w' => (w'.cell? ⟨gb181, 0, none⟩ = some (.slice Ao39 x182000_1.length co39) ∧ w'.cell? ⟨gb181, 1, none⟩ = some (.slice Ao40 x182001_1.length co40) ∧ w'.cell? ⟨gb181, 2, none⟩ = some (.slice Ao41 x182002_1.length co41) ∧ w'.cell? ⟨gb187, 0, none⟩ = some (.int .i64 t183) ∧ w'.cell? ⟨gb187, 1, none⟩ = some (.bool t184)) ∧ (Kd.R k31 31 w' w.heap.size (fun k_ => some k_ ≠ (.slice Ao39 x182000_1.length co39 : Value).ownBlock ∧ k_ ≠ gb176 ∧ k_ ≠ gb187) s_.1 y188) ∧ (Kd.R (Kd.int .i64) 3 w' w.heap.size (fun k_ => some k_ ≠ (.slice Ao40 x182001_1.length co40 : Value).ownBlock ∧ some k_ ≠ (.slice Ao41 x182002_1.length co41 : Value).ownBlock) s_.2 y200) ∧ (Kd.R k31 31 w' w.heap.size (fun k_ => some k_ ≠ (s_.1 : Value).ownBlock ∧ k_ ≠ gb176 ∧ k_ ≠ gb187) (.slice Ao39 x182000_1.length co39) x182000_1) ∧ (Kd.R (Kd.int .i64) 3 w' w.heap.size (fun k_ => some k_ ≠ (s_.2 : Value).ownBlock ∧ some k_ ≠ (.slice Ao41 x182002_1.length co41 : Value).ownBlock) (.slice Ao40 x182001_1.length co40) x182001_1) ∧ (Kd.R (Kd.int .i64) 3 w' w.heap.size (fun k_ => some k_ ≠ (s_.2 : Value).ownBlock ∧ some k_ ≠ (.slice Ao40 x182001_1.length co40 : Value).ownBlock) (.slice Ao41 x182002_1.length co41) x182002_1) ∧ (w'.heap[gb175]? = some (.cells #[.int .i64 a0_0, .int .i64 a0_1, .int .i64 a0_2, .int .i64 a0_3] 29 (0, 0))) ∧ (w'.heap[gb176]? = some (.cells #[.int .i64 x177000_1, .bool x177001_1] 31 (0, 0))) ∧ (w'.heap[gb177]? = some (.cells #[.slice none 0 0, .slice none 0 0, .slice none 0 0] 92 (0, 0))) ∧ (w'.heap[gb181]? = some (.cells #[.slice Ao39 x182000_1.length co39, .slice Ao40 x182001_1.length co40, .slice Ao41 x182002_1.length co41] 92 (0, 0))) ∧ (w'.heap[gb187]? = some (.cells #[.int .i64 t183, .bool t184] 31 (0, 0))) ∧ (Below w.heap.size w w')) ?_ ?_
                                  rotate_left
                                  · intro hJ3_13
                                    refine join_ (σ := Value × Value) 10 #[true, true, true, false, false, true, true, true, true, false, true, true, true, true, false, false, false, false, false, false, false] (fun s_ => [(38, s_.1), (43, s_.2)]) (fun s_ w' => (w'.cell? ⟨gb181, 0, none⟩ = some (.slice Ao39 x182000_1.length co39) ∧ w'.cell? ⟨gb181, 1, none⟩ = some (.slice Ao40 x182001_1.length co40) ∧ w'.cell? ⟨gb181, 2, none⟩ = some (.slice Ao41 x182002_1.length co41) ∧ w'.cell? ⟨gb187, 0, none⟩ = some (.int .i64 t183) ∧ w'.cell? ⟨gb187, 1, none⟩ = some (.bool t184)) ∧ (Kd.R (Kd.int .i64) 3 w' w.heap.size (fun k_ => some k_ ≠ (s_.2 : Value).ownBlock ∧ some k_ ≠ (.slice Ao40 x182001_1.length co40 : Value).ownBlock ∧ some k_ ≠ (.slice Ao41 x182002_1.length co41 : Value).ownBlock) s_.1 y194) ∧ (Kd.R (Kd.int .i64) 3 w' w.heap.size (fun k_ => some k_ ≠ (s_.1 : Value).ownBlock ∧ some k_ ≠ (.slice Ao40 x182001_1.length co40 : Value).ownBlock ∧ some k_ ≠ (.slice Ao41 x182002_1.length co41 : Value).ownBlock) s_.2 y200) ∧ (Kd.R k31 31 w' w.heap.size (fun k_ => k_ ≠ gb176 ∧ k_ ≠ gb187) (.slice Ao39 x182000_1.length co39) x182000_1) ∧ (Kd.R (Kd.int .i64) 3 w' w.heap.size (fun k_ => some k_ ≠ (s_.1 : Value).ownBlock ∧ some k_ ≠ (s_.2 : Value).ownBlock ∧ some k_ ≠ (.slice Ao41 x182002_1.length co41 : Value).ownBlock) (.slice Ao40 x182001_1.length co40) x182001_1) ∧ (Kd.R (Kd.int .i64) 3 w' w.heap.size (fun k_ => some k_ ≠ (s_.1 : Value).ownBlock ∧ some k_ ≠ (s_.2 : Value).ownBlock ∧ some k_ ≠ (.slice Ao40 x182001_1.length co40 : Value).ownBlock) (.slice Ao41 x182002_1.length co41) x182002_1) ∧ (w'.heap[gb175]? = some (.cells #[.int .i64 a0_0, .int .i64 a0_1, .int .i64 a0_2, .int .i64 a0_3] 29 (0, 0))) ∧ (w'.heap[gb176]? = some (.cells #[.int .i64 x177000_1, .bool x177001_1] 31 (0, 0))) ∧ (w'.heap[gb177]? = some (.cells #[.slice none 0 0, .slice none 0 0, .slice none 0 0] 92 (0, 0))) ∧ (w'.heap[gb181]? = some (.cells #[.slice Ao39 x182000_1.length co39, .slice Ao40 x182001_1.length co40, .slice Ao41 x182002_1.length co41] 92 (0, 0))) ∧ (w'.heap[gb187]? = some (.cells #[.int .i64 t183, .bool t184] 31 (0, 0))) ∧ (Below w.heap.size w w')) ?_ ?_
                                    rotate_left
                                    · intro hJ8_13
                                      refine join_ (σ := Value) 11 #[true, true, true, true, false, true, true, true, false, false, true, true, true, false, false, false, false, false, false, false, false] (fun s_ => [(33, s_)]) (fun s_ w' => (w'.cell? ⟨gb181, 0, none⟩ = some (.slice Ao39 x182000_1.length co39) ∧ w'.cell? ⟨gb181, 1, none⟩ = some (.slice Ao40 x182001_1.length co40) ∧ w'.cell? ⟨gb181, 2, none⟩ = some (.slice Ao41 x182002_1.length co41) ∧ w'.cell? ⟨gb187, 0, none⟩ = some (.int .i64 t183) ∧ w'.cell? ⟨gb187, 1, none⟩ = some (.bool t184)) ∧ (Kd.R k31 31 w' w.heap.size (fun k_ => some k_ ≠ (.slice Ao39 x182000_1.length co39 : Value).ownBlock ∧ k_ ≠ gb176 ∧ k_ ≠ gb187) s_ y188) ∧ (Kd.R k31 31 w' w.heap.size (fun k_ => some k_ ≠ (s_ : Value).ownBlock ∧ k_ ≠ gb176 ∧ k_ ≠ gb187) (.slice Ao39 x182000_1.length co39) x182000_1) ∧ (Kd.R (Kd.int .i64) 3 w' w.heap.size (fun k_ => some k_ ≠ (.slice Ao41 x182002_1.length co41 : Value).ownBlock) (.slice Ao40 x182001_1.length co40) x182001_1) ∧ (Kd.R (Kd.int .i64) 3 w' w.heap.size (fun k_ => some k_ ≠ (.slice Ao40 x182001_1.length co40 : Value).ownBlock) (.slice Ao41 x182002_1.length co41) x182002_1) ∧ (w'.heap[gb175]? = some (.cells #[.int .i64 a0_0, .int .i64 a0_1, .int .i64 a0_2, .int .i64 a0_3] 29 (0, 0))) ∧ (w'.heap[gb176]? = some (.cells #[.int .i64 x177000_1, .bool x177001_1] 31 (0, 0))) ∧ (w'.heap[gb177]? = some (.cells #[.slice none 0 0, .slice none 0 0, .slice none 0 0] 92 (0, 0))) ∧ (w'.heap[gb181]? = some (.cells #[.slice Ao39 x182000_1.length co39, .slice Ao40 x182001_1.length co40, .slice Ao41 x182002_1.length co41] 92 (0, 0))) ∧ (w'.heap[gb187]? = some (.cells #[.int .i64 t183, .bool t184] 31 (0, 0))) ∧ (Below w.heap.size w w')) ?_ ?_
                                      rotate_left
                                      · intro hJ3
                                        refine join_ (σ := Value) 11 #[true, true, true, false, false, true, true, true, true, false, true, true, true, false, false, false, false, false, false, false, false] (fun s_ => [(38, s_)]) (fun s_ w' => (w'.cell? ⟨gb181, 0, none⟩ = some (.slice Ao39 x182000_1.length co39) ∧ w'.cell? ⟨gb181, 1, none⟩ = some (.slice Ao40 x182001_1.length co40) ∧ w'.cell? ⟨gb181, 2, none⟩ = some (.slice Ao41 x182002_1.length co41) ∧ w'.cell? ⟨gb187, 0, none⟩ = some (.int .i64 t183) ∧ w'.cell? ⟨gb187, 1, none⟩ = some (.bool t184)) ∧ (Kd.R (Kd.int .i64) 3 w' w.heap.size (fun k_ => some k_ ≠ (.slice Ao40 x182001_1.length co40 : Value).ownBlock ∧ some k_ ≠ (.slice Ao41 x182002_1.length co41 : Value).ownBlock) s_ y194) ∧ (Kd.R k31 31 w' w.heap.size (fun k_ => k_ ≠ gb176 ∧ k_ ≠ gb187) (.slice Ao39 x182000_1.length co39) x182000_1) ∧ (Kd.R (Kd.int .i64) 3 w' w.heap.size (fun k_ => some k_ ≠ (s_ : Value).ownBlock ∧ some k_ ≠ (.slice Ao41 x182002_1.length co41 : Value).ownBlock) (.slice Ao40 x182001_1.length co40) x182001_1) ∧ (Kd.R (Kd.int .i64) 3 w' w.heap.size (fun k_ => some k_ ≠ (s_ : Value).ownBlock ∧ some k_ ≠ (.slice Ao40 x182001_1.length co40 : Value).ownBlock) (.slice Ao41 x182002_1.length co41) x182002_1) ∧ (w'.heap[gb175]? = some (.cells #[.int .i64 a0_0, .int .i64 a0_1, .int .i64 a0_2, .int .i64 a0_3] 29 (0, 0))) ∧ (w'.heap[gb176]? = some (.cells #[.int .i64 x177000_1, .bool x177001_1] 31 (0, 0))) ∧ (w'.heap[gb177]? = some (.cells #[.slice none 0 0, .slice none 0 0, .slice none 0 0] 92 (0, 0))) ∧ (w'.heap[gb181]? = some (.cells #[.slice Ao39 x182000_1.length co39, .slice Ao40 x182001_1.length co40, .slice Ao41 x182002_1.length co41] 92 (0, 0))) ∧ (w'.heap[gb187]? = some (.cells #[.int .i64 t183, .bool t184] 31 (0, 0))) ∧ (Below w.heap.size w w')) ?_ ?_
                                        rotate_left
                                        · intro hJ8
                                          refine join_ (σ := Value) 11 #[true, true, true, false, false, true, true, true, false, false, true, true, true, true, false, false, false, false, false, false, false] (fun s_ => [(43, s_)]) (fun s_ w' => (w'.cell? ⟨gb181, 0, none⟩ = some (.slice Ao39 x182000_1.length co39) ∧ w'.cell? ⟨gb181, 1, none⟩ = some (.slice Ao40 x182001_1.length co40) ∧ w'.cell? ⟨gb181, 2, none⟩ = some (.slice Ao41 x182002_1.length co41) ∧ w'.cell? ⟨gb187, 0, none⟩ = some (.int .i64 t183) ∧ w'.cell? ⟨gb187, 1, none⟩ = some (.bool t184)) ∧ (Kd.R (Kd.int .i64) 3 w' w.heap.size (fun k_ => some k_ ≠ (.slice Ao40 x182001_1.length co40 : Value).ownBlock ∧ some k_ ≠ (.slice Ao41 x182002_1.length co41 : Value).ownBlock) s_ y200) ∧ (Kd.R k31 31 w' w.heap.size (fun k_ => k_ ≠ gb176 ∧ k_ ≠ gb187) (.slice Ao39 x182000_1.length co39) x182000_1) ∧ (Kd.R (Kd.int .i64) 3 w' w.heap.size (fun k_ => some k_ ≠ (s_ : Value).ownBlock ∧ some k_ ≠ (.slice Ao41 x182002_1.length co41 : Value).ownBlock) (.slice Ao40 x182001_1.length co40) x182001_1) ∧ (Kd.R (Kd.int .i64) 3 w' w.heap.size (fun k_ => some k_ ≠ (s_ : Value).ownBlock ∧ some k_ ≠ (.slice Ao40 x182001_1.length co40 : Value).ownBlock) (.slice Ao41 x182002_1.length co41) x182002_1) ∧ (w'.heap[gb175]? = some (.cells #[.int .i64 a0_0, .int .i64 a0_1, .int .i64 a0_2, .int .i64 a0_3] 29 (0, 0))) ∧ (w'.heap[gb176]? = some (.cells #[.int .i64 x177000_1, .bool x177001_1] 31 (0, 0))) ∧ (w'.heap[gb177]? = some (.cells #[.slice none 0 0, .slice none 0 0, .slice none 0 0] 92 (0, 0))) ∧ (w'.heap[gb181]? = some (.cells #[.slice Ao39 x182000_1.length co39, .slice Ao40 x182001_1.length co40, .slice Ao41 x182002_1.length co41] 92 (0, 0))) ∧ (w'.heap[gb187]? = some (.cells #[.int .i64 t183, .bool t184] 31 (0, 0))) ∧ (Below w.heap.size w w')) ?_ ?_
                                          rotate_left
                                          · intro hJ13
                                            refine three_ (i := 3) (j := 8) (k := 13) (Ni := some 33) (Nj := some 38) (Nk := some 43) #[true, true, true, true, false, true, true, true, false, false, true, true, true, false, false, false, false, false, false, false, false] #[true, true, true, false, false, true, true, true, true, false, true, true, true, false, false, false, false, false, false, false, false] #[true, true, true, false, false, true, true, true, false, false, true, true, true, true, false, false, false, false, false, false, false] rfl rfl rfl rfl rfl rfl (three_of HT_.out (by kernel_rfl)) (by decide) (by decide) (by decide) (fun K hK => ?_) (fun K hK => ?_) (fun K hK => ?_)
                                            · skip
                                              refine Kd.R_lit_step k31 _ 31 ?hg (N := 33) ?hd (xs := ([(⟨t183, t184⟩ : S31)] : List (S31))) (inner := [.int .i64 t183, .bool t184]) (ok := fun _ => True) (okp := fun _ => True) ?hr ?hp (fun _ hk => hk) trivial (Below.refl _ _) (Nat.le_refl _) (by simp) ?_; (case hd => rfl); (case hg => rfl); (case hr => first | (go_simp; done) | (go_simp; rfl)); (case hp => exact (Reps.c2 (show Kd.M k31 _ _ _ (⟨t183, t184⟩ : S31) [.int .i64 t183, .bool t184] from (k31_mkM _ _ _ (⟨t183, t184⟩ : S31) )) (Reps.none _ _)))
                                              intro v189 w44 ho45 hb hg_ hnew_
                                              clear hg_ hnew_
                                              (first | rw [← Ny188.out] at ho45 | (simp only [Int.reduceToNat] at ho45; rw [← Ny188.out] at ho45))
                                              have n0_ := Aside0.mk (Kd.R_elder' (xr HO_182000.out) (Kd.R_base ho45) hb)
                                              have n1_ := Aside0.mk (Kd.R_below (xr HO_182001.out) hb)
                                              have n2_ := Aside0.mk (Kd.R_below (xr HO_182002.out) hb)
                                              have n3_ := Aside0.mk (Kd.R_lower (Kd.R_newB (Kd.R_newB (Kd.R_new' ho45 (Kd.R_lt (xr HO_182000.out))) (g := gb176) (o := .cells #[.int .i64 x177000_1, .bool x177001_1] 31 (0, 0)) (xb BK176.out)) (g := gb187) (o := .cells #[.int .i64 t183, .bool t184] 31 (0, 0)) (xb BK187.out)) (below_size (xs HB.out)))
                                              have n4_ := Aside0.mk (blk_below (g := gb175) (o := .cells #[.int .i64 a0_0, .int .i64 a0_1, .int .i64 a0_2, .int .i64 a0_3] 29 (0, 0)) (xb BK175.out) hb)
                                              have n5_ := Aside0.mk (blk_below (g := gb176) (o := .cells #[.int .i64 x177000_1, .bool x177001_1] 31 (0, 0)) (xb BK176.out) hb)
                                              have n6_ := Aside0.mk (blk_below (g := gb177) (o := .cells #[.slice none 0 0, .slice none 0 0, .slice none 0 0] 92 (0, 0)) (xb BK177.out) hb)
                                              have n7_ := Aside0.mk (blk_below (g := gb181) (o := .cells #[.slice Ao39 x182000_1.length co39, .slice Ao40 x182001_1.length co40, .slice Ao41 x182002_1.length co41] 92 (0, 0)) (xb BK181.out) hb)
                                              have n8_ := Aside0.mk (blk_below (g := gb187) (o := .cells #[.int .i64 t183, .bool t184] 31 (0, 0)) (xb BK187.out) hb)
                                              have n9_ := Aside0.mk (below_step (xs HB.out) hb)
                                              clear HO_182000
                                              clear HO_182001
                                              clear HO_182002
                                              clear BK175
                                              clear BK176
                                              clear BK177
                                              clear BK181
                                              clear BK187
                                              clear HB
                                              have HO_182000 := n0_
                                              have HO_182001 := n1_
                                              have HO_182002 := n2_
                                              have HO190 := n3_
                                              have BK175 := n4_
                                              have BK176 := n5_
                                              have BK177 := n6_
                                              have BK181 := n7_
                                              have BK187 := n8_
                                              have HB := n9_
                                              clear n0_ n1_ n2_ n3_ n4_ n5_ n6_ n7_ n8_ n9_
                                              clear hb ho45
                                              refine hK.out _ _ ⟨(blk_cell BK181.out 0).trans rfl, (blk_cell BK181.out 1).trans rfl, (blk_cell BK181.out 2).trans rfl, (blk_cell BK187.out 0).trans rfl, (blk_cell BK187.out 1).trans rfl⟩ (fun hHeld => ?_)
                                              clear hK K
                                              refine norm_ (a' := ?_) ?_ ?_
                                              rotate_left
                                              · show Act.put _ (some 33) _ = _
                                                simp only [Act.put, List.setIfInBounds_toArray, List.set_cons_zero, List.set_cons_succ, i64_w, i32_w]
                                                rfl
                                              exact norm_ (by first | (simp only [putAll, Act.put, List.setIfInBounds_toArray, List.set_cons_zero, List.set_cons_succ]; done) | (simp only [putAll, Act.put, List.setIfInBounds_toArray, List.set_cons_zero, List.set_cons_succ]; rfl)) (hJ3 (v189) _ ⟨hHeld, (by (with_reducible repeat (first | apply Kd.R_alloc | apply Kd.R_drewN | apply Kd.R_drew)); exact Kd.R_mono HO190.out (fun _ hk => ⟨hk.1.1.2, ⟨hk.1.2, hk.2⟩⟩)), (by (with_reducible repeat (first | apply Kd.R_alloc | apply Kd.R_drewN | apply Kd.R_drew)); exact Kd.R_mono HO_182000.out (fun _ hk => ⟨hk.2, ⟨hk.1.1, hk.1.2⟩⟩)), (xr HO_182001.out), (xr HO_182002.out), (xb BK175.out), (xb BK176.out), (xb BK177.out), (xb BK181.out), (xb BK187.out), (xs HB.out)⟩)
                                            · skip
                                              refine Kd.R_lit_step (Kd.int .i64) _ 3 ?hg (N := 38) ?hd (xs := ([t185] : List Int)) (inner := [.int .i64 t185]) (ok := fun _ => True) (okp := fun _ => True) ?hr ?hp (fun _ hk => hk) trivial (Below.refl _ _) (Nat.le_refl _) (by simp) ?_; (case hd => rfl); (case hg => rfl); (case hr => first | (go_simp; done) | (go_simp; rfl)); (case hp => exact (Reps.one (show Kd.M (Kd.int .i64) _ _ _ t185 [.int .i64 t185] from rfl) (Reps.none _ _)))
                                              intro v195 w44 ho45 hb hg_ hnew_
                                              clear hg_ hnew_
                                              (first | rw [← Ny194.out] at ho45 | (simp only [Int.reduceToNat] at ho45; rw [← Ny194.out] at ho45))
                                              have n0_ := Aside0.mk (Kd.R_below (xr HO_182000.out) hb)
                                              have n1_ := Aside0.mk (Kd.R_elder' (xr HO_182001.out) (Kd.R_base ho45) hb)
                                              have n2_ := Aside0.mk (Kd.R_elder' (xr HO_182002.out) (Kd.R_base ho45) hb)
                                              have n3_ := Aside0.mk (Kd.R_lower (Kd.R_new' (Kd.R_new' ho45 (Kd.R_lt (xr HO_182001.out))) (Kd.R_lt (xr HO_182002.out))) (below_size (xs HB.out)))
                                              have n4_ := Aside0.mk (blk_below (g := gb175) (o := .cells #[.int .i64 a0_0, .int .i64 a0_1, .int .i64 a0_2, .int .i64 a0_3] 29 (0, 0)) (xb BK175.out) hb)
                                              have n5_ := Aside0.mk (blk_below (g := gb176) (o := .cells #[.int .i64 x177000_1, .bool x177001_1] 31 (0, 0)) (xb BK176.out) hb)
                                              have n6_ := Aside0.mk (blk_below (g := gb177) (o := .cells #[.slice none 0 0, .slice none 0 0, .slice none 0 0] 92 (0, 0)) (xb BK177.out) hb)
                                              have n7_ := Aside0.mk (blk_below (g := gb181) (o := .cells #[.slice Ao39 x182000_1.length co39, .slice Ao40 x182001_1.length co40, .slice Ao41 x182002_1.length co41] 92 (0, 0)) (xb BK181.out) hb)
                                              have n8_ := Aside0.mk (blk_below (g := gb187) (o := .cells #[.int .i64 t183, .bool t184] 31 (0, 0)) (xb BK187.out) hb)
                                              have n9_ := Aside0.mk (below_step (xs HB.out) hb)
                                              clear HO_182000
                                              clear HO_182001
                                              clear HO_182002
                                              clear BK175
                                              clear BK176
                                              clear BK177
                                              clear BK181
                                              clear BK187
                                              clear HB
                                              have HO_182000 := n0_
                                              have HO_182001 := n1_
                                              have HO_182002 := n2_
                                              have HO196 := n3_
                                              have BK175 := n4_
                                              have BK176 := n5_
                                              have BK177 := n6_
                                              have BK181 := n7_
                                              have BK187 := n8_
                                              have HB := n9_
                                              clear n0_ n1_ n2_ n3_ n4_ n5_ n6_ n7_ n8_ n9_
                                              clear hb ho45
                                              refine hK.out _ _ ⟨(blk_cell BK181.out 0).trans rfl, (blk_cell BK181.out 1).trans rfl, (blk_cell BK181.out 2).trans rfl, (blk_cell BK187.out 0).trans rfl, (blk_cell BK187.out 1).trans rfl⟩ (fun hHeld => ?_)
                                              clear hK K
                                              refine norm_ (a' := ?_) ?_ ?_
                                              rotate_left
                                              · show Act.put _ (some 38) _ = _
                                                simp only [Act.put, List.setIfInBounds_toArray, List.set_cons_zero, List.set_cons_succ, i64_w, i32_w]
                                                rfl
                                              exact norm_ (by first | (simp only [putAll, Act.put, List.setIfInBounds_toArray, List.set_cons_zero, List.set_cons_succ]; done) | (simp only [putAll, Act.put, List.setIfInBounds_toArray, List.set_cons_zero, List.set_cons_succ]; rfl)) (hJ8 (v195) _ ⟨hHeld, (by (with_reducible repeat (first | apply Kd.R_alloc | apply Kd.R_drewN | apply Kd.R_drew)); exact Kd.R_mono HO196.out (fun _ hk => ⟨hk.1.2, hk.2⟩)), (xr HO_182000.out), (by (with_reducible repeat (first | apply Kd.R_alloc | apply Kd.R_drewN | apply Kd.R_drew)); exact Kd.R_mono HO_182001.out (fun _ hk => ⟨hk.2, hk.1⟩)), (by (with_reducible repeat (first | apply Kd.R_alloc | apply Kd.R_drewN | apply Kd.R_drew)); exact Kd.R_mono HO_182002.out (fun _ hk => ⟨hk.2, hk.1⟩)), (xb BK175.out), (xb BK176.out), (xb BK177.out), (xb BK181.out), (xb BK187.out), (xs HB.out)⟩)
                                            · skip
                                              refine Kd.R_lit_step (Kd.int .i64) _ 3 ?hg (N := 43) ?hd (xs := ([t186] : List Int)) (inner := [.int .i64 t186]) (ok := fun _ => True) (okp := fun _ => True) ?hr ?hp (fun _ hk => hk) trivial (Below.refl _ _) (Nat.le_refl _) (by simp) ?_; (case hd => rfl); (case hg => rfl); (case hr => first | (go_simp; done) | (go_simp; rfl)); (case hp => exact (Reps.one (show Kd.M (Kd.int .i64) _ _ _ t186 [.int .i64 t186] from rfl) (Reps.none _ _)))
                                              intro v201 w44 ho45 hb hg_ hnew_
                                              clear hg_ hnew_
                                              (first | rw [← Ny200.out] at ho45 | (simp only [Int.reduceToNat] at ho45; rw [← Ny200.out] at ho45))
                                              have n0_ := Aside0.mk (Kd.R_below (xr HO_182000.out) hb)
                                              have n1_ := Aside0.mk (Kd.R_elder' (xr HO_182001.out) (Kd.R_base ho45) hb)
                                              have n2_ := Aside0.mk (Kd.R_elder' (xr HO_182002.out) (Kd.R_base ho45) hb)
                                              have n3_ := Aside0.mk (Kd.R_lower (Kd.R_new' (Kd.R_new' ho45 (Kd.R_lt (xr HO_182001.out))) (Kd.R_lt (xr HO_182002.out))) (below_size (xs HB.out)))
                                              have n4_ := Aside0.mk (blk_below (g := gb175) (o := .cells #[.int .i64 a0_0, .int .i64 a0_1, .int .i64 a0_2, .int .i64 a0_3] 29 (0, 0)) (xb BK175.out) hb)
                                              have n5_ := Aside0.mk (blk_below (g := gb176) (o := .cells #[.int .i64 x177000_1, .bool x177001_1] 31 (0, 0)) (xb BK176.out) hb)
                                              have n6_ := Aside0.mk (blk_below (g := gb177) (o := .cells #[.slice none 0 0, .slice none 0 0, .slice none 0 0] 92 (0, 0)) (xb BK177.out) hb)
                                              have n7_ := Aside0.mk (blk_below (g := gb181) (o := .cells #[.slice Ao39 x182000_1.length co39, .slice Ao40 x182001_1.length co40, .slice Ao41 x182002_1.length co41] 92 (0, 0)) (xb BK181.out) hb)
                                              have n8_ := Aside0.mk (blk_below (g := gb187) (o := .cells #[.int .i64 t183, .bool t184] 31 (0, 0)) (xb BK187.out) hb)
                                              have n9_ := Aside0.mk (below_step (xs HB.out) hb)
                                              clear HO_182000
                                              clear HO_182001
                                              clear HO_182002
                                              clear BK175
                                              clear BK176
                                              clear BK177
                                              clear BK181
                                              clear BK187
                                              clear HB
                                              have HO_182000 := n0_
                                              have HO_182001 := n1_
                                              have HO_182002 := n2_
                                              have HO202 := n3_
                                              have BK175 := n4_
                                              have BK176 := n5_
                                              have BK177 := n6_
                                              have BK181 := n7_
                                              have BK187 := n8_
                                              have HB := n9_
                                              clear n0_ n1_ n2_ n3_ n4_ n5_ n6_ n7_ n8_ n9_
                                              clear hb ho45
                                              refine hK.out _ _ ⟨(blk_cell BK181.out 0).trans rfl, (blk_cell BK181.out 1).trans rfl, (blk_cell BK181.out 2).trans rfl, (blk_cell BK187.out 0).trans rfl, (blk_cell BK187.out 1).trans rfl⟩ (fun hHeld => ?_)
                                              clear hK K
                                              refine norm_ (a' := ?_) ?_ ?_
                                              rotate_left
                                              · show Act.put _ (some 43) _ = _
                                                simp only [Act.put, List.setIfInBounds_toArray, List.set_cons_zero, List.set_cons_succ, i64_w, i32_w]
                                                rfl
                                              exact norm_ (by first | (simp only [putAll, Act.put, List.setIfInBounds_toArray, List.set_cons_zero, List.set_cons_succ]; done) | (simp only [putAll, Act.put, List.setIfInBounds_toArray, List.set_cons_zero, List.set_cons_succ]; rfl)) (hJ13 (v201) _ ⟨hHeld, (by (with_reducible repeat (first | apply Kd.R_alloc | apply Kd.R_drewN | apply Kd.R_drew)); exact Kd.R_mono HO202.out (fun _ hk => ⟨hk.1.2, hk.2⟩)), (xr HO_182000.out), (by (with_reducible repeat (first | apply Kd.R_alloc | apply Kd.R_drewN | apply Kd.R_drew)); exact Kd.R_mono HO_182001.out (fun _ hk => ⟨hk.2, hk.1⟩)), (by (with_reducible repeat (first | apply Kd.R_alloc | apply Kd.R_drewN | apply Kd.R_drew)); exact Kd.R_mono HO_182002.out (fun _ hk => ⟨hk.2, hk.1⟩)), (xb BK175.out), (xb BK176.out), (xb BK177.out), (xb BK181.out), (xb BK187.out), (xs HB.out)⟩)
                                          · skip
                                            rintro v201 w46 ⟨hS_, h0_, h1_, h2_, h3_, h4_, h5_, h6_, h7_, h8_, h9_⟩
                                            have n0_ : Aside0 (Kd.R (Kd.int .i64) 3 w46 w.heap.size (fun k_ => some k_ ≠ (.slice Ao40 x182001_1.length co40 : Value).ownBlock ∧ some k_ ≠ (.slice Ao41 x182002_1.length co41 : Value).ownBlock) v201 y200) := ⟨h0_⟩
                                            have n1_ : Aside0 (Kd.R k31 31 w46 w.heap.size (fun k_ => k_ ≠ gb176 ∧ k_ ≠ gb187) (.slice Ao39 x182000_1.length co39) x182000_1) := ⟨h1_⟩
                                            have n2_ : Aside0 (Kd.R (Kd.int .i64) 3 w46 w.heap.size (fun k_ => some k_ ≠ (v201 : Value).ownBlock ∧ some k_ ≠ (.slice Ao41 x182002_1.length co41 : Value).ownBlock) (.slice Ao40 x182001_1.length co40) x182001_1) := ⟨h2_⟩
                                            have n3_ : Aside0 (Kd.R (Kd.int .i64) 3 w46 w.heap.size (fun k_ => some k_ ≠ (v201 : Value).ownBlock ∧ some k_ ≠ (.slice Ao40 x182001_1.length co40 : Value).ownBlock) (.slice Ao41 x182002_1.length co41) x182002_1) := ⟨h3_⟩
                                            have n4_ : Aside0 (w46.heap[gb175]? = some (.cells #[.int .i64 a0_0, .int .i64 a0_1, .int .i64 a0_2, .int .i64 a0_3] 29 (0, 0))) := ⟨h4_⟩
                                            have n5_ : Aside0 (w46.heap[gb176]? = some (.cells #[.int .i64 x177000_1, .bool x177001_1] 31 (0, 0))) := ⟨h5_⟩
                                            have n6_ : Aside0 (w46.heap[gb177]? = some (.cells #[.slice none 0 0, .slice none 0 0, .slice none 0 0] 92 (0, 0))) := ⟨h6_⟩
                                            have n7_ : Aside0 (w46.heap[gb181]? = some (.cells #[.slice Ao39 x182000_1.length co39, .slice Ao40 x182001_1.length co40, .slice Ao41 x182002_1.length co41] 92 (0, 0))) := ⟨h7_⟩
                                            have n8_ : Aside0 (w46.heap[gb187]? = some (.cells #[.int .i64 t183, .bool t184] 31 (0, 0))) := ⟨h8_⟩
                                            have n9_ : Aside0 (Below w.heap.size w w46) := ⟨h9_⟩
                                            clear HO_182000
                                            clear HO_182001
                                            clear HO_182002
                                            clear BK175
                                            clear BK176
                                            clear BK177
                                            clear BK181
                                            clear BK187
                                            clear HB
                                            clear h0_ h1_ h2_ h3_ h4_ h5_ h6_ h7_ h8_ h9_
                                            have HO202 := n0_
                                            have HO_182000 := n1_
                                            have HO_182001 := n2_
                                            have HO_182002 := n3_
                                            have BK175 := n4_
                                            have BK176 := n5_
                                            have BK177 := n6_
                                            have BK181 := n7_
                                            have BK187 := n8_
                                            have HB := n9_
                                            clear n0_ n1_ n2_ n3_ n4_ n5_ n6_ n7_ n8_ n9_
                                            have hHeld : w46.cell? ⟨gb181, 0, none⟩ = some (.slice Ao39 x182000_1.length co39) ∧ w46.cell? ⟨gb181, 1, none⟩ = some (.slice Ao40 x182001_1.length co40) ∧ w46.cell? ⟨gb181, 2, none⟩ = some (.slice Ao41 x182002_1.length co41) ∧ w46.cell? ⟨gb187, 0, none⟩ = some (.int .i64 t183) ∧ w46.cell? ⟨gb187, 1, none⟩ = some (.bool t184) := hS_
                                            refine norm_ (a' := ?_) ?_ ?_
                                            rotate_left
                                            · simp only [putAll, Act.put, List.setIfInBounds_toArray, List.set_cons_zero, List.set_cons_succ]
                                              rfl
                                            refine two_ (i := 3) (j := 8) (Ni := some 33) (Nj := some 38) #[true, true, true, true, false, true, true, true, false, false, true, true, true, true, false, false, false, false, false, false, false] #[true, true, true, false, false, true, true, true, true, false, true, true, true, true, false, false, false, false, false, false, false] rfl rfl rfl rfl (two_of HT_.out (by kernel_rfl)) (by decide) (by decide) (fun K hK => ?_) (fun K hK => ?_)
                                            · skip
                                              refine Kd.R_lit_step k31 _ 31 ?hg (N := 33) ?hd (xs := ([(⟨t183, t184⟩ : S31)] : List (S31))) (inner := [.int .i64 t183, .bool t184]) (ok := fun _ => True) (okp := fun _ => True) ?hr ?hp (fun _ hk => hk) trivial (Below.refl _ _) (Nat.le_refl _) (by simp) ?_; (case hd => rfl); (case hg => rfl); (case hr => first | (go_simp; done) | (go_simp; rfl)); (case hp => exact (Reps.c2 (show Kd.M k31 _ _ _ (⟨t183, t184⟩ : S31) [.int .i64 t183, .bool t184] from (k31_mkM _ _ _ (⟨t183, t184⟩ : S31) )) (Reps.none _ _)))
                                              intro v189 w47 ho48 hb hg_ hnew_
                                              clear hg_ hnew_
                                              (first | rw [← Ny188.out] at ho48 | (simp only [Int.reduceToNat] at ho48; rw [← Ny188.out] at ho48))
                                              have n0_ := Aside0.mk (Kd.R_elder' (xr HO_182000.out) (Kd.R_base ho48) hb)
                                              have n1_ := Aside0.mk (Kd.R_below (xr HO_182001.out) hb)
                                              have n2_ := Aside0.mk (Kd.R_below (xr HO_182002.out) hb)
                                              have n3_ := Aside0.mk (Kd.R_below (xr HO202.out) hb)
                                              have n4_ := Aside0.mk (Kd.R_lower (Kd.R_newB (Kd.R_newB (Kd.R_new' ho48 (Kd.R_lt (xr HO_182000.out))) (g := gb176) (o := .cells #[.int .i64 x177000_1, .bool x177001_1] 31 (0, 0)) (xb BK176.out)) (g := gb187) (o := .cells #[.int .i64 t183, .bool t184] 31 (0, 0)) (xb BK187.out)) (below_size (xs HB.out)))
                                              have n5_ := Aside0.mk (blk_below (g := gb175) (o := .cells #[.int .i64 a0_0, .int .i64 a0_1, .int .i64 a0_2, .int .i64 a0_3] 29 (0, 0)) (xb BK175.out) hb)
                                              have n6_ := Aside0.mk (blk_below (g := gb176) (o := .cells #[.int .i64 x177000_1, .bool x177001_1] 31 (0, 0)) (xb BK176.out) hb)
                                              have n7_ := Aside0.mk (blk_below (g := gb177) (o := .cells #[.slice none 0 0, .slice none 0 0, .slice none 0 0] 92 (0, 0)) (xb BK177.out) hb)
                                              have n8_ := Aside0.mk (blk_below (g := gb181) (o := .cells #[.slice Ao39 x182000_1.length co39, .slice Ao40 x182001_1.length co40, .slice Ao41 x182002_1.length co41] 92 (0, 0)) (xb BK181.out) hb)
                                              have n9_ := Aside0.mk (blk_below (g := gb187) (o := .cells #[.int .i64 t183, .bool t184] 31 (0, 0)) (xb BK187.out) hb)
                                              have n10_ := Aside0.mk (below_step (xs HB.out) hb)
                                              clear HO_182000
                                              clear HO_182001
                                              clear HO_182002
                                              clear HO202
                                              clear BK175
                                              clear BK176
                                              clear BK177
                                              clear BK181
                                              clear BK187
                                              clear HB
                                              have HO_182000 := n0_
                                              have HO_182001 := n1_
                                              have HO_182002 := n2_
                                              have HO202 := n3_
                                              have HO190 := n4_
                                              have BK175 := n5_
                                              have BK176 := n6_
                                              have BK177 := n7_
                                              have BK181 := n8_
                                              have BK187 := n9_
                                              have HB := n10_
                                              clear n0_ n1_ n2_ n3_ n4_ n5_ n6_ n7_ n8_ n9_ n10_
                                              clear hb ho48
                                              refine hK.out _ _ ⟨(blk_cell BK181.out 0).trans rfl, (blk_cell BK181.out 1).trans rfl, (blk_cell BK181.out 2).trans rfl, (blk_cell BK187.out 0).trans rfl, (blk_cell BK187.out 1).trans rfl⟩ (fun hHeld => ?_)
                                              clear hK K
                                              refine norm_ (a' := ?_) ?_ ?_
                                              rotate_left
                                              · show Act.put _ (some 33) _ = _
                                                simp only [Act.put, List.setIfInBounds_toArray, List.set_cons_zero, List.set_cons_succ, i64_w, i32_w]
                                                rfl
                                              exact norm_ (by first | (simp only [putAll, Act.put, List.setIfInBounds_toArray, List.set_cons_zero, List.set_cons_succ]; done) | (simp only [putAll, Act.put, List.setIfInBounds_toArray, List.set_cons_zero, List.set_cons_succ]; rfl)) (hJ3_13 (v189, v201) _ ⟨hHeld, (by (with_reducible repeat (first | apply Kd.R_alloc | apply Kd.R_drewN | apply Kd.R_drew)); exact Kd.R_mono HO190.out (fun _ hk => ⟨hk.1.1.2, ⟨hk.1.2, hk.2⟩⟩)), (xr HO202.out), (by (with_reducible repeat (first | apply Kd.R_alloc | apply Kd.R_drewN | apply Kd.R_drew)); exact Kd.R_mono HO_182000.out (fun _ hk => ⟨hk.2, ⟨hk.1.1, hk.1.2⟩⟩)), (xr HO_182001.out), (xr HO_182002.out), (xb BK175.out), (xb BK176.out), (xb BK177.out), (xb BK181.out), (xb BK187.out), (xs HB.out)⟩)
                                            · skip
                                              refine Kd.R_lit_step (Kd.int .i64) _ 3 ?hg (N := 38) ?hd (xs := ([t185] : List Int)) (inner := [.int .i64 t185]) (ok := fun _ => True) (okp := fun _ => True) ?hr ?hp (fun _ hk => hk) trivial (Below.refl _ _) (Nat.le_refl _) (by simp) ?_; (case hd => rfl); (case hg => rfl); (case hr => first | (go_simp; done) | (go_simp; rfl)); (case hp => exact (Reps.one (show Kd.M (Kd.int .i64) _ _ _ t185 [.int .i64 t185] from rfl) (Reps.none _ _)))
                                              intro v195 w47 ho48 hb hg_ hnew_
                                              clear hg_ hnew_
                                              (first | rw [← Ny194.out] at ho48 | (simp only [Int.reduceToNat] at ho48; rw [← Ny194.out] at ho48))
                                              have n0_ := Aside0.mk (Kd.R_below (xr HO_182000.out) hb)
                                              have n1_ := Aside0.mk (Kd.R_elder' (xr HO_182001.out) (Kd.R_base ho48) hb)
                                              have n2_ := Aside0.mk (Kd.R_elder' (xr HO_182002.out) (Kd.R_base ho48) hb)
                                              have n3_ := Aside0.mk (Kd.R_elder' (xr HO202.out) (Kd.R_base ho48) hb)
                                              have n4_ := Aside0.mk (Kd.R_lower (Kd.R_new' (Kd.R_new' (Kd.R_new' ho48 (Kd.R_lt (xr HO_182001.out))) (Kd.R_lt (xr HO_182002.out))) (Kd.R_lt (xr HO202.out))) (below_size (xs HB.out)))
                                              have n5_ := Aside0.mk (blk_below (g := gb175) (o := .cells #[.int .i64 a0_0, .int .i64 a0_1, .int .i64 a0_2, .int .i64 a0_3] 29 (0, 0)) (xb BK175.out) hb)
                                              have n6_ := Aside0.mk (blk_below (g := gb176) (o := .cells #[.int .i64 x177000_1, .bool x177001_1] 31 (0, 0)) (xb BK176.out) hb)
                                              have n7_ := Aside0.mk (blk_below (g := gb177) (o := .cells #[.slice none 0 0, .slice none 0 0, .slice none 0 0] 92 (0, 0)) (xb BK177.out) hb)
                                              have n8_ := Aside0.mk (blk_below (g := gb181) (o := .cells #[.slice Ao39 x182000_1.length co39, .slice Ao40 x182001_1.length co40, .slice Ao41 x182002_1.length co41] 92 (0, 0)) (xb BK181.out) hb)
                                              have n9_ := Aside0.mk (blk_below (g := gb187) (o := .cells #[.int .i64 t183, .bool t184] 31 (0, 0)) (xb BK187.out) hb)
                                              have n10_ := Aside0.mk (below_step (xs HB.out) hb)
                                              clear HO_182000
                                              clear HO_182001
                                              clear HO_182002
                                              clear HO202
                                              clear BK175
                                              clear BK176
                                              clear BK177
                                              clear BK181
                                              clear BK187
                                              clear HB
                                              have HO_182000 := n0_
                                              have HO_182001 := n1_
                                              have HO_182002 := n2_
                                              have HO202 := n3_
                                              have HO196 := n4_
                                              have BK175 := n5_
                                              have BK176 := n6_
                                              have BK177 := n7_
                                              have BK181 := n8_
                                              have BK187 := n9_
                                              have HB := n10_
                                              clear n0_ n1_ n2_ n3_ n4_ n5_ n6_ n7_ n8_ n9_ n10_
                                              clear hb ho48
                                              refine hK.out _ _ ⟨(blk_cell BK181.out 0).trans rfl, (blk_cell BK181.out 1).trans rfl, (blk_cell BK181.out 2).trans rfl, (blk_cell BK187.out 0).trans rfl, (blk_cell BK187.out 1).trans rfl⟩ (fun hHeld => ?_)
                                              clear hK K
                                              refine norm_ (a' := ?_) ?_ ?_
                                              rotate_left
                                              · show Act.put _ (some 38) _ = _
                                                simp only [Act.put, List.setIfInBounds_toArray, List.set_cons_zero, List.set_cons_succ, i64_w, i32_w]
                                                rfl
                                              exact norm_ (by first | (simp only [putAll, Act.put, List.setIfInBounds_toArray, List.set_cons_zero, List.set_cons_succ]; done) | (simp only [putAll, Act.put, List.setIfInBounds_toArray, List.set_cons_zero, List.set_cons_succ]; rfl)) (hJ8_13 (v195, v201) _ ⟨hHeld, (by (with_reducible repeat (first | apply Kd.R_alloc | apply Kd.R_drewN | apply Kd.R_drew)); exact Kd.R_mono HO196.out (fun _ hk => ⟨hk.2, ⟨hk.1.1.2, hk.1.2⟩⟩)), (by (with_reducible repeat (first | apply Kd.R_alloc | apply Kd.R_drewN | apply Kd.R_drew)); exact Kd.R_mono HO202.out (fun _ hk => ⟨hk.2, ⟨hk.1.1, hk.1.2⟩⟩)), (xr HO_182000.out), (by (with_reducible repeat (first | apply Kd.R_alloc | apply Kd.R_drewN | apply Kd.R_drew)); exact Kd.R_mono HO_182001.out (fun _ hk => ⟨hk.2, ⟨hk.1.1, hk.1.2⟩⟩)), (by (with_reducible repeat (first | apply Kd.R_alloc | apply Kd.R_drewN | apply Kd.R_drew)); exact Kd.R_mono HO_182002.out (fun _ hk => ⟨hk.2, ⟨hk.1.1, hk.1.2⟩⟩)), (xb BK175.out), (xb BK176.out), (xb BK177.out), (xb BK181.out), (xb BK187.out), (xs HB.out)⟩)
                                        · skip
                                          rintro v195 w46 ⟨hS_, h0_, h1_, h2_, h3_, h4_, h5_, h6_, h7_, h8_, h9_⟩
                                          have n0_ : Aside0 (Kd.R (Kd.int .i64) 3 w46 w.heap.size (fun k_ => some k_ ≠ (.slice Ao40 x182001_1.length co40 : Value).ownBlock ∧ some k_ ≠ (.slice Ao41 x182002_1.length co41 : Value).ownBlock) v195 y194) := ⟨h0_⟩
                                          have n1_ : Aside0 (Kd.R k31 31 w46 w.heap.size (fun k_ => k_ ≠ gb176 ∧ k_ ≠ gb187) (.slice Ao39 x182000_1.length co39) x182000_1) := ⟨h1_⟩
                                          have n2_ : Aside0 (Kd.R (Kd.int .i64) 3 w46 w.heap.size (fun k_ => some k_ ≠ (v195 : Value).ownBlock ∧ some k_ ≠ (.slice Ao41 x182002_1.length co41 : Value).ownBlock) (.slice Ao40 x182001_1.length co40) x182001_1) := ⟨h2_⟩
                                          have n3_ : Aside0 (Kd.R (Kd.int .i64) 3 w46 w.heap.size (fun k_ => some k_ ≠ (v195 : Value).ownBlock ∧ some k_ ≠ (.slice Ao40 x182001_1.length co40 : Value).ownBlock) (.slice Ao41 x182002_1.length co41) x182002_1) := ⟨h3_⟩
                                          have n4_ : Aside0 (w46.heap[gb175]? = some (.cells #[.int .i64 a0_0, .int .i64 a0_1, .int .i64 a0_2, .int .i64 a0_3] 29 (0, 0))) := ⟨h4_⟩
                                          have n5_ : Aside0 (w46.heap[gb176]? = some (.cells #[.int .i64 x177000_1, .bool x177001_1] 31 (0, 0))) := ⟨h5_⟩
                                          have n6_ : Aside0 (w46.heap[gb177]? = some (.cells #[.slice none 0 0, .slice none 0 0, .slice none 0 0] 92 (0, 0))) := ⟨h6_⟩
                                          have n7_ : Aside0 (w46.heap[gb181]? = some (.cells #[.slice Ao39 x182000_1.length co39, .slice Ao40 x182001_1.length co40, .slice Ao41 x182002_1.length co41] 92 (0, 0))) := ⟨h7_⟩
                                          have n8_ : Aside0 (w46.heap[gb187]? = some (.cells #[.int .i64 t183, .bool t184] 31 (0, 0))) := ⟨h8_⟩
                                          have n9_ : Aside0 (Below w.heap.size w w46) := ⟨h9_⟩
                                          clear HO_182000
                                          clear HO_182001
                                          clear HO_182002
                                          clear BK175
                                          clear BK176
                                          clear BK177
                                          clear BK181
                                          clear BK187
                                          clear HB
                                          clear h0_ h1_ h2_ h3_ h4_ h5_ h6_ h7_ h8_ h9_
                                          have HO196 := n0_
                                          have HO_182000 := n1_
                                          have HO_182001 := n2_
                                          have HO_182002 := n3_
                                          have BK175 := n4_
                                          have BK176 := n5_
                                          have BK177 := n6_
                                          have BK181 := n7_
                                          have BK187 := n8_
                                          have HB := n9_
                                          clear n0_ n1_ n2_ n3_ n4_ n5_ n6_ n7_ n8_ n9_
                                          have hHeld : w46.cell? ⟨gb181, 0, none⟩ = some (.slice Ao39 x182000_1.length co39) ∧ w46.cell? ⟨gb181, 1, none⟩ = some (.slice Ao40 x182001_1.length co40) ∧ w46.cell? ⟨gb181, 2, none⟩ = some (.slice Ao41 x182002_1.length co41) ∧ w46.cell? ⟨gb187, 0, none⟩ = some (.int .i64 t183) ∧ w46.cell? ⟨gb187, 1, none⟩ = some (.bool t184) := hS_
                                          refine norm_ (a' := ?_) ?_ ?_
                                          rotate_left
                                          · simp only [putAll, Act.put, List.setIfInBounds_toArray, List.set_cons_zero, List.set_cons_succ]
                                            rfl
                                          refine two_ (i := 3) (j := 13) (Ni := some 33) (Nj := some 43) #[true, true, true, true, false, true, true, true, true, false, true, true, true, false, false, false, false, false, false, false, false] #[true, true, true, false, false, true, true, true, true, false, true, true, true, true, false, false, false, false, false, false, false] rfl rfl rfl rfl (two_of HT_.out (by kernel_rfl)) (by decide) (by decide) (fun K hK => ?_) (fun K hK => ?_)
                                          · skip
                                            refine Kd.R_lit_step k31 _ 31 ?hg (N := 33) ?hd (xs := ([(⟨t183, t184⟩ : S31)] : List (S31))) (inner := [.int .i64 t183, .bool t184]) (ok := fun _ => True) (okp := fun _ => True) ?hr ?hp (fun _ hk => hk) trivial (Below.refl _ _) (Nat.le_refl _) (by simp) ?_; (case hd => rfl); (case hg => rfl); (case hr => first | (go_simp; done) | (go_simp; rfl)); (case hp => exact (Reps.c2 (show Kd.M k31 _ _ _ (⟨t183, t184⟩ : S31) [.int .i64 t183, .bool t184] from (k31_mkM _ _ _ (⟨t183, t184⟩ : S31) )) (Reps.none _ _)))
                                            intro v189 w47 ho48 hb hg_ hnew_
                                            clear hg_ hnew_
                                            (first | rw [← Ny188.out] at ho48 | (simp only [Int.reduceToNat] at ho48; rw [← Ny188.out] at ho48))
                                            have n0_ := Aside0.mk (Kd.R_elder' (xr HO_182000.out) (Kd.R_base ho48) hb)
                                            have n1_ := Aside0.mk (Kd.R_below (xr HO_182001.out) hb)
                                            have n2_ := Aside0.mk (Kd.R_below (xr HO_182002.out) hb)
                                            have n3_ := Aside0.mk (Kd.R_below (xr HO196.out) hb)
                                            have n4_ := Aside0.mk (Kd.R_lower (Kd.R_newB (Kd.R_newB (Kd.R_new' ho48 (Kd.R_lt (xr HO_182000.out))) (g := gb176) (o := .cells #[.int .i64 x177000_1, .bool x177001_1] 31 (0, 0)) (xb BK176.out)) (g := gb187) (o := .cells #[.int .i64 t183, .bool t184] 31 (0, 0)) (xb BK187.out)) (below_size (xs HB.out)))
                                            have n5_ := Aside0.mk (blk_below (g := gb175) (o := .cells #[.int .i64 a0_0, .int .i64 a0_1, .int .i64 a0_2, .int .i64 a0_3] 29 (0, 0)) (xb BK175.out) hb)
                                            have n6_ := Aside0.mk (blk_below (g := gb176) (o := .cells #[.int .i64 x177000_1, .bool x177001_1] 31 (0, 0)) (xb BK176.out) hb)
                                            have n7_ := Aside0.mk (blk_below (g := gb177) (o := .cells #[.slice none 0 0, .slice none 0 0, .slice none 0 0] 92 (0, 0)) (xb BK177.out) hb)
                                            have n8_ := Aside0.mk (blk_below (g := gb181) (o := .cells #[.slice Ao39 x182000_1.length co39, .slice Ao40 x182001_1.length co40, .slice Ao41 x182002_1.length co41] 92 (0, 0)) (xb BK181.out) hb)
                                            have n9_ := Aside0.mk (blk_below (g := gb187) (o := .cells #[.int .i64 t183, .bool t184] 31 (0, 0)) (xb BK187.out) hb)
                                            have n10_ := Aside0.mk (below_step (xs HB.out) hb)
                                            clear HO_182000
                                            clear HO_182001
                                            clear HO_182002
                                            clear HO196
                                            clear BK175
                                            clear BK176
                                            clear BK177
                                            clear BK181
                                            clear BK187
                                            clear HB
                                            have HO_182000 := n0_
                                            have HO_182001 := n1_
                                            have HO_182002 := n2_
                                            have HO196 := n3_
                                            have HO190 := n4_
                                            have BK175 := n5_
                                            have BK176 := n6_
                                            have BK177 := n7_
                                            have BK181 := n8_
                                            have BK187 := n9_
                                            have HB := n10_
                                            clear n0_ n1_ n2_ n3_ n4_ n5_ n6_ n7_ n8_ n9_ n10_
                                            clear hb ho48
                                            refine hK.out _ _ ⟨(blk_cell BK181.out 0).trans rfl, (blk_cell BK181.out 1).trans rfl, (blk_cell BK181.out 2).trans rfl, (blk_cell BK187.out 0).trans rfl, (blk_cell BK187.out 1).trans rfl⟩ (fun hHeld => ?_)
                                            clear hK K
                                            refine norm_ (a' := ?_) ?_ ?_
                                            rotate_left
                                            · show Act.put _ (some 33) _ = _
                                              simp only [Act.put, List.setIfInBounds_toArray, List.set_cons_zero, List.set_cons_succ, i64_w, i32_w]
                                              rfl
                                            exact norm_ (by first | (simp only [putAll, Act.put, List.setIfInBounds_toArray, List.set_cons_zero, List.set_cons_succ]; done) | (simp only [putAll, Act.put, List.setIfInBounds_toArray, List.set_cons_zero, List.set_cons_succ]; rfl)) (hJ3_8 (v189, v195) _ ⟨hHeld, (by (with_reducible repeat (first | apply Kd.R_alloc | apply Kd.R_drewN | apply Kd.R_drew)); exact Kd.R_mono HO190.out (fun _ hk => ⟨hk.1.1.2, ⟨hk.1.2, hk.2⟩⟩)), (xr HO196.out), (by (with_reducible repeat (first | apply Kd.R_alloc | apply Kd.R_drewN | apply Kd.R_drew)); exact Kd.R_mono HO_182000.out (fun _ hk => ⟨hk.2, ⟨hk.1.1, hk.1.2⟩⟩)), (xr HO_182001.out), (xr HO_182002.out), (xb BK175.out), (xb BK176.out), (xb BK177.out), (xb BK181.out), (xb BK187.out), (xs HB.out)⟩)
                                          · skip
                                            refine Kd.R_lit_step (Kd.int .i64) _ 3 ?hg (N := 43) ?hd (xs := ([t186] : List Int)) (inner := [.int .i64 t186]) (ok := fun _ => True) (okp := fun _ => True) ?hr ?hp (fun _ hk => hk) trivial (Below.refl _ _) (Nat.le_refl _) (by simp) ?_; (case hd => rfl); (case hg => rfl); (case hr => first | (go_simp; done) | (go_simp; rfl)); (case hp => exact (Reps.one (show Kd.M (Kd.int .i64) _ _ _ t186 [.int .i64 t186] from rfl) (Reps.none _ _)))
                                            intro v201 w47 ho48 hb hg_ hnew_
                                            clear hg_ hnew_
                                            (first | rw [← Ny200.out] at ho48 | (simp only [Int.reduceToNat] at ho48; rw [← Ny200.out] at ho48))
                                            have n0_ := Aside0.mk (Kd.R_below (xr HO_182000.out) hb)
                                            have n1_ := Aside0.mk (Kd.R_elder' (xr HO_182001.out) (Kd.R_base ho48) hb)
                                            have n2_ := Aside0.mk (Kd.R_elder' (xr HO_182002.out) (Kd.R_base ho48) hb)
                                            have n3_ := Aside0.mk (Kd.R_elder' (xr HO196.out) (Kd.R_base ho48) hb)
                                            have n4_ := Aside0.mk (Kd.R_lower (Kd.R_new' (Kd.R_new' (Kd.R_new' ho48 (Kd.R_lt (xr HO_182001.out))) (Kd.R_lt (xr HO_182002.out))) (Kd.R_lt (xr HO196.out))) (below_size (xs HB.out)))
                                            have n5_ := Aside0.mk (blk_below (g := gb175) (o := .cells #[.int .i64 a0_0, .int .i64 a0_1, .int .i64 a0_2, .int .i64 a0_3] 29 (0, 0)) (xb BK175.out) hb)
                                            have n6_ := Aside0.mk (blk_below (g := gb176) (o := .cells #[.int .i64 x177000_1, .bool x177001_1] 31 (0, 0)) (xb BK176.out) hb)
                                            have n7_ := Aside0.mk (blk_below (g := gb177) (o := .cells #[.slice none 0 0, .slice none 0 0, .slice none 0 0] 92 (0, 0)) (xb BK177.out) hb)
                                            have n8_ := Aside0.mk (blk_below (g := gb181) (o := .cells #[.slice Ao39 x182000_1.length co39, .slice Ao40 x182001_1.length co40, .slice Ao41 x182002_1.length co41] 92 (0, 0)) (xb BK181.out) hb)
                                            have n9_ := Aside0.mk (blk_below (g := gb187) (o := .cells #[.int .i64 t183, .bool t184] 31 (0, 0)) (xb BK187.out) hb)
                                            have n10_ := Aside0.mk (below_step (xs HB.out) hb)
                                            clear HO_182000
                                            clear HO_182001
                                            clear HO_182002
                                            clear HO196
                                            clear BK175
                                            clear BK176
                                            clear BK177
                                            clear BK181
                                            clear BK187
                                            clear HB
                                            have HO_182000 := n0_
                                            have HO_182001 := n1_
                                            have HO_182002 := n2_
                                            have HO196 := n3_
                                            have HO202 := n4_
                                            have BK175 := n5_
                                            have BK176 := n6_
                                            have BK177 := n7_
                                            have BK181 := n8_
                                            have BK187 := n9_
                                            have HB := n10_
                                            clear n0_ n1_ n2_ n3_ n4_ n5_ n6_ n7_ n8_ n9_ n10_
                                            clear hb ho48
                                            refine hK.out _ _ ⟨(blk_cell BK181.out 0).trans rfl, (blk_cell BK181.out 1).trans rfl, (blk_cell BK181.out 2).trans rfl, (blk_cell BK187.out 0).trans rfl, (blk_cell BK187.out 1).trans rfl⟩ (fun hHeld => ?_)
                                            clear hK K
                                            refine norm_ (a' := ?_) ?_ ?_
                                            rotate_left
                                            · show Act.put _ (some 43) _ = _
                                              simp only [Act.put, List.setIfInBounds_toArray, List.set_cons_zero, List.set_cons_succ, i64_w, i32_w]
                                              rfl
                                            exact norm_ (by first | (simp only [putAll, Act.put, List.setIfInBounds_toArray, List.set_cons_zero, List.set_cons_succ]; done) | (simp only [putAll, Act.put, List.setIfInBounds_toArray, List.set_cons_zero, List.set_cons_succ]; rfl)) (hJ8_13 (v195, v201) _ ⟨hHeld, (by (with_reducible repeat (first | apply Kd.R_alloc | apply Kd.R_drewN | apply Kd.R_drew)); exact Kd.R_mono HO196.out (fun _ hk => ⟨hk.2, ⟨hk.1.1, hk.1.2⟩⟩)), (by (with_reducible repeat (first | apply Kd.R_alloc | apply Kd.R_drewN | apply Kd.R_drew)); exact Kd.R_mono HO202.out (fun _ hk => ⟨hk.2, ⟨hk.1.1.2, hk.1.2⟩⟩)), (xr HO_182000.out), (by (with_reducible repeat (first | apply Kd.R_alloc | apply Kd.R_drewN | apply Kd.R_drew)); exact Kd.R_mono HO_182001.out (fun _ hk => ⟨hk.1.1, ⟨hk.2, hk.1.2⟩⟩)), (by (with_reducible repeat (first | apply Kd.R_alloc | apply Kd.R_drewN | apply Kd.R_drew)); exact Kd.R_mono HO_182002.out (fun _ hk => ⟨hk.1.1, ⟨hk.2, hk.1.2⟩⟩)), (xb BK175.out), (xb BK176.out), (xb BK177.out), (xb BK181.out), (xb BK187.out), (xs HB.out)⟩)
                                      · skip
                                        rintro v189 w46 ⟨hS_, h0_, h1_, h2_, h3_, h4_, h5_, h6_, h7_, h8_, h9_⟩
                                        have n0_ : Aside0 (Kd.R k31 31 w46 w.heap.size (fun k_ => some k_ ≠ (.slice Ao39 x182000_1.length co39 : Value).ownBlock ∧ k_ ≠ gb176 ∧ k_ ≠ gb187) v189 y188) := ⟨h0_⟩
                                        have n1_ : Aside0 (Kd.R k31 31 w46 w.heap.size (fun k_ => some k_ ≠ (v189 : Value).ownBlock ∧ k_ ≠ gb176 ∧ k_ ≠ gb187) (.slice Ao39 x182000_1.length co39) x182000_1) := ⟨h1_⟩
                                        have n2_ : Aside0 (Kd.R (Kd.int .i64) 3 w46 w.heap.size (fun k_ => some k_ ≠ (.slice Ao41 x182002_1.length co41 : Value).ownBlock) (.slice Ao40 x182001_1.length co40) x182001_1) := ⟨h2_⟩
                                        have n3_ : Aside0 (Kd.R (Kd.int .i64) 3 w46 w.heap.size (fun k_ => some k_ ≠ (.slice Ao40 x182001_1.length co40 : Value).ownBlock) (.slice Ao41 x182002_1.length co41) x182002_1) := ⟨h3_⟩
                                        have n4_ : Aside0 (w46.heap[gb175]? = some (.cells #[.int .i64 a0_0, .int .i64 a0_1, .int .i64 a0_2, .int .i64 a0_3] 29 (0, 0))) := ⟨h4_⟩
                                        have n5_ : Aside0 (w46.heap[gb176]? = some (.cells #[.int .i64 x177000_1, .bool x177001_1] 31 (0, 0))) := ⟨h5_⟩
                                        have n6_ : Aside0 (w46.heap[gb177]? = some (.cells #[.slice none 0 0, .slice none 0 0, .slice none 0 0] 92 (0, 0))) := ⟨h6_⟩
                                        have n7_ : Aside0 (w46.heap[gb181]? = some (.cells #[.slice Ao39 x182000_1.length co39, .slice Ao40 x182001_1.length co40, .slice Ao41 x182002_1.length co41] 92 (0, 0))) := ⟨h7_⟩
                                        have n8_ : Aside0 (w46.heap[gb187]? = some (.cells #[.int .i64 t183, .bool t184] 31 (0, 0))) := ⟨h8_⟩
                                        have n9_ : Aside0 (Below w.heap.size w w46) := ⟨h9_⟩
                                        clear HO_182000
                                        clear HO_182001
                                        clear HO_182002
                                        clear BK175
                                        clear BK176
                                        clear BK177
                                        clear BK181
                                        clear BK187
                                        clear HB
                                        clear h0_ h1_ h2_ h3_ h4_ h5_ h6_ h7_ h8_ h9_
                                        have HO190 := n0_
                                        have HO_182000 := n1_
                                        have HO_182001 := n2_
                                        have HO_182002 := n3_
                                        have BK175 := n4_
                                        have BK176 := n5_
                                        have BK177 := n6_
                                        have BK181 := n7_
                                        have BK187 := n8_
                                        have HB := n9_
                                        clear n0_ n1_ n2_ n3_ n4_ n5_ n6_ n7_ n8_ n9_
                                        have hHeld : w46.cell? ⟨gb181, 0, none⟩ = some (.slice Ao39 x182000_1.length co39) ∧ w46.cell? ⟨gb181, 1, none⟩ = some (.slice Ao40 x182001_1.length co40) ∧ w46.cell? ⟨gb181, 2, none⟩ = some (.slice Ao41 x182002_1.length co41) ∧ w46.cell? ⟨gb187, 0, none⟩ = some (.int .i64 t183) ∧ w46.cell? ⟨gb187, 1, none⟩ = some (.bool t184) := hS_
                                        obtain ⟨Ao48, co48, eo48⟩ := Kd.R_slice HO190.out
                                        (first | subst eo48 | (injection eo48 with f1_ f2_ f3_; have f4_ := f1_.symm; have f5_ := f3_.symm; clear f1_ f2_ f3_; subst f4_; subst f5_))
                                        refine norm_ (a' := ?_) ?_ ?_
                                        rotate_left
                                        · simp only [putAll, Act.put, List.setIfInBounds_toArray, List.set_cons_zero, List.set_cons_succ]
                                          rfl
                                        refine three_ (i := 4) (j := 8) (k := 13) (Ni := some 34) (Nj := some 38) (Nk := some 43) #[true, true, true, true, true, true, true, true, false, false, true, true, true, false, false, false, false, false, false, false, false] #[true, true, true, true, false, true, true, true, true, false, true, true, true, false, false, false, false, false, false, false, false] #[true, true, true, true, false, true, true, true, false, false, true, true, true, true, false, false, false, false, false, false, false] rfl rfl rfl rfl rfl rfl (three_of HT_.out (by kernel_rfl)) (by decide) (by decide) (by decide) (fun K hK => ?_) (fun K hK => ?_) (fun K hK => ?_)
                                        · skip
                                          refine Kd.R_append_rows_step k31 (w0 := w) w.heap.size (by rfl) (.tmp 31) (.tmp 33) 39 31 (.agg #[(.int .i64 0), (.bool false)]) 16 rfl Try.underlying39 info31 rfl (by decide) (by omega) (.slice Ao39 x182000_1.length co39) x182000_1 y188 _ _ _ (fun k_ => some k_ ≠ (.slice Ao48 y188.length co48 : Value).ownBlock ∧ k_ ≠ gb176 ∧ k_ ≠ gb187) (fun _ => False) rfl rfl ?aO ?aR (fun _ _ h => h) (fun _ h => h.elim) ?aF ?aB ?aS ?aL ?_
                                          (case aR => repeat (first | exact (Kd.R_reads' HO190.out).2.2 | (with_reducible refine Kd.C_alloc ?_ _) | (with_reducible refine Kd.C_drewN ?_ _) | (with_reducible refine Kd.C_drew ?_)))
                                          (case aB => exact (xs HB.out))
                                          (case aF => exact (fun k_ hk => ⟨Kd.fresh' (Kd.R_lt (xr HO190.out)) k_ hk, Kd.freshB (g := gb176) (o := .cells #[.int .i64 x177000_1, .bool x177001_1] 31 (0, 0)) (xb BK176.out) k_ hk, Kd.freshB (g := gb187) (o := .cells #[.int .i64 t183, .bool t184] 31 (0, 0)) (xb BK187.out) k_ hk⟩))
                                          (case aO => exact (xr HO_182000.out))
                                          (case aS => exact (below_size (xs HB.out)))
                                          (case aL => have := LMc22.out; omega)
                                          intro v192 w47 ho hb hg hat
                                          rw [← Ny191.out] at ho
                                          have n0_ := Aside0.mk (Kd.R_over' (xr HO_182001.out) (Kd.R_typed (xr HO_182000.out)) (by decide) hg)
                                          have n1_ := Aside0.mk (Kd.R_over' (xr HO_182002.out) (Kd.R_typed (xr HO_182000.out)) (by decide) hg)
                                          have n2_ := Aside0.mk (blk_grown (g := gb175) (o := .cells #[.int .i64 a0_0, .int .i64 a0_1, .int .i64 a0_2, .int .i64 a0_3] 29 (0, 0)) (xb BK175.out) hg (Kd.R_ne HO_182000.out BK175.out (by decide)))
                                          have n3_ := Aside0.mk (blk_grown (g := gb176) (o := .cells #[.int .i64 x177000_1, .bool x177001_1] 31 (0, 0)) (xb BK176.out) hg (Kd.R_away HO_182000.out (fun _ hk => hk.2.1)))
                                          have n4_ := Aside0.mk (blk_grown (g := gb177) (o := .cells #[.slice none 0 0, .slice none 0 0, .slice none 0 0] 92 (0, 0)) (xb BK177.out) hg (Kd.R_ne HO_182000.out BK177.out (by decide)))
                                          have n5_ := Aside0.mk (blk_grown (g := gb181) (o := .cells #[.slice Ao39 x182000_1.length co39, .slice Ao40 x182001_1.length co40, .slice Ao41 x182002_1.length co41] 92 (0, 0)) (xb BK181.out) hg (Kd.R_ne HO_182000.out BK181.out (by decide)))
                                          have n6_ := Aside0.mk (blk_grown (g := gb187) (o := .cells #[.int .i64 t183, .bool t184] 31 (0, 0)) (xb BK187.out) hg (Kd.R_away HO_182000.out (fun _ hk => hk.2.2)))
                                          have n7_ := Aside0.mk (Kd.R_after (ok := (fun k_ => k_ ≠ gb176 ∧ k_ ≠ gb187)) (by (with_reducible repeat (first | apply Kd.R_alloc | apply Kd.R_drewN | apply Kd.R_drew)); exact Kd.R_mono HO190.out (fun _ hk => ⟨⟨hk.2.1, hk.2.2⟩, hk.1⟩)) hg hat)
                                          have n8_ := Aside0.mk (hb)
                                          have n9_ := Aside0.mk (ho)
                                          clear HO_182001
                                          clear HO_182002
                                          clear BK175
                                          clear BK176
                                          clear BK177
                                          clear BK181
                                          clear BK187
                                          clear HO190
                                          clear HB
                                          clear HO_182000
                                          have HO_182001 := n0_
                                          have HO_182002 := n1_
                                          have BK175 := n2_
                                          have BK176 := n3_
                                          have BK177 := n4_
                                          have BK181 := n5_
                                          have BK187 := n6_
                                          have HO190 := n7_
                                          have HB := n8_
                                          have HO193 := n9_
                                          clear n0_ n1_ n2_ n3_ n4_ n5_ n6_ n7_ n8_ n9_
                                          clear ho hb hg hat
                                          refine hK.out _ _ ⟨(blk_cell BK181.out 0).trans rfl, (blk_cell BK181.out 1).trans rfl, (blk_cell BK181.out 2).trans rfl, (blk_cell BK187.out 0).trans rfl, (blk_cell BK187.out 1).trans rfl⟩ (fun hHeld => ?_)
                                          clear hK K
                                          refine norm_ (a' := ?_) ?_ ?_
                                          rotate_left
                                          · show Act.put _ (some 34) _ = _
                                            simp only [Act.put, List.setIfInBounds_toArray, List.set_cons_zero, List.set_cons_succ, i64_w, i32_w]
                                            rfl
                                          refine pure_ (i := 15) (N := some 45) (v := ?_) (a' := ?_) #[true, true, true, true, true, true, true, true, false, false, true, true, true, false, false, true, false, false, false, false, false] rfl rfl (any_of HT_.out (by kernel_rfl)) (fun _ _ _ h => h) (Or.inl ⟨by rfl, ?_⟩) ?_ ?_
                                          rotate_left
                                          · intro w'
                                            go_simp
                                            with_reducible rfl
                                          rotate_left
                                          · simp only [Act.put, List.setIfInBounds_toArray, List.set_cons_zero, List.set_cons_succ, i64_w, i32_w]
                                            rfl
                                          exact norm_ (by first | (simp only [putAll, Act.put, List.setIfInBounds_toArray, List.set_cons_zero, List.set_cons_succ]; done) | (simp only [putAll, Act.put, List.setIfInBounds_toArray, List.set_cons_zero, List.set_cons_succ]; rfl)) (hJ3_4 (.slice Ao48 y188.length co48, v192) _ ⟨hHeld, (by (with_reducible repeat (first | apply Kd.R_alloc | apply Kd.R_drewN | apply Kd.R_drew)); exact Kd.R_mono HO190.out (fun _ hk => ⟨hk.2, ⟨hk.1.1, hk.1.2⟩⟩)), (xr HO193.out), (xr HO_182001.out), (xr HO_182002.out), (xb BK175.out), (xb BK176.out), (xb BK177.out), (xb BK181.out), (xb BK187.out), (xs HB.out)⟩)
                                        · skip
                                          refine Kd.R_lit_step (Kd.int .i64) _ 3 ?hg (N := 38) ?hd (xs := ([t185] : List Int)) (inner := [.int .i64 t185]) (ok := fun _ => True) (okp := fun _ => True) ?hr ?hp (fun _ hk => hk) trivial (Below.refl _ _) (Nat.le_refl _) (by simp) ?_; (case hd => rfl); (case hg => rfl); (case hr => first | (go_simp; done) | (go_simp; rfl)); (case hp => exact (Reps.one (show Kd.M (Kd.int .i64) _ _ _ t185 [.int .i64 t185] from rfl) (Reps.none _ _)))
                                          intro v195 w47 ho48 hb hg_ hnew_
                                          clear hg_ hnew_
                                          (first | rw [← Ny194.out] at ho48 | (simp only [Int.reduceToNat] at ho48; rw [← Ny194.out] at ho48))
                                          have n0_ := Aside0.mk (Kd.R_below (xr HO_182000.out) hb)
                                          have n1_ := Aside0.mk (Kd.R_elder' (xr HO_182001.out) (Kd.R_base ho48) hb)
                                          have n2_ := Aside0.mk (Kd.R_elder' (xr HO_182002.out) (Kd.R_base ho48) hb)
                                          have n3_ := Aside0.mk (Kd.R_below (xr HO190.out) hb)
                                          have n4_ := Aside0.mk (Kd.R_lower (Kd.R_new' (Kd.R_new' ho48 (Kd.R_lt (xr HO_182001.out))) (Kd.R_lt (xr HO_182002.out))) (below_size (xs HB.out)))
                                          have n5_ := Aside0.mk (blk_below (g := gb175) (o := .cells #[.int .i64 a0_0, .int .i64 a0_1, .int .i64 a0_2, .int .i64 a0_3] 29 (0, 0)) (xb BK175.out) hb)
                                          have n6_ := Aside0.mk (blk_below (g := gb176) (o := .cells #[.int .i64 x177000_1, .bool x177001_1] 31 (0, 0)) (xb BK176.out) hb)
                                          have n7_ := Aside0.mk (blk_below (g := gb177) (o := .cells #[.slice none 0 0, .slice none 0 0, .slice none 0 0] 92 (0, 0)) (xb BK177.out) hb)
                                          have n8_ := Aside0.mk (blk_below (g := gb181) (o := .cells #[.slice Ao39 x182000_1.length co39, .slice Ao40 x182001_1.length co40, .slice Ao41 x182002_1.length co41] 92 (0, 0)) (xb BK181.out) hb)
                                          have n9_ := Aside0.mk (blk_below (g := gb187) (o := .cells #[.int .i64 t183, .bool t184] 31 (0, 0)) (xb BK187.out) hb)
                                          have n10_ := Aside0.mk (below_step (xs HB.out) hb)
                                          clear HO_182000
                                          clear HO_182001
                                          clear HO_182002
                                          clear HO190
                                          clear BK175
                                          clear BK176
                                          clear BK177
                                          clear BK181
                                          clear BK187
                                          clear HB
                                          have HO_182000 := n0_
                                          have HO_182001 := n1_
                                          have HO_182002 := n2_
                                          have HO190 := n3_
                                          have HO196 := n4_
                                          have BK175 := n5_
                                          have BK176 := n6_
                                          have BK177 := n7_
                                          have BK181 := n8_
                                          have BK187 := n9_
                                          have HB := n10_
                                          clear n0_ n1_ n2_ n3_ n4_ n5_ n6_ n7_ n8_ n9_ n10_
                                          clear hb ho48
                                          refine hK.out _ _ ⟨(blk_cell BK181.out 0).trans rfl, (blk_cell BK181.out 1).trans rfl, (blk_cell BK181.out 2).trans rfl, (blk_cell BK187.out 0).trans rfl, (blk_cell BK187.out 1).trans rfl⟩ (fun hHeld => ?_)
                                          clear hK K
                                          refine norm_ (a' := ?_) ?_ ?_
                                          rotate_left
                                          · show Act.put _ (some 38) _ = _
                                            simp only [Act.put, List.setIfInBounds_toArray, List.set_cons_zero, List.set_cons_succ, i64_w, i32_w]
                                            rfl
                                          exact norm_ (by first | (simp only [putAll, Act.put, List.setIfInBounds_toArray, List.set_cons_zero, List.set_cons_succ]; done) | (simp only [putAll, Act.put, List.setIfInBounds_toArray, List.set_cons_zero, List.set_cons_succ]; rfl)) (hJ3_8 (.slice Ao48 y188.length co48, v195) _ ⟨hHeld, (xr HO190.out), (by (with_reducible repeat (first | apply Kd.R_alloc | apply Kd.R_drewN | apply Kd.R_drew)); exact Kd.R_mono HO196.out (fun _ hk => ⟨hk.1.2, hk.2⟩)), (xr HO_182000.out), (by (with_reducible repeat (first | apply Kd.R_alloc | apply Kd.R_drewN | apply Kd.R_drew)); exact Kd.R_mono HO_182001.out (fun _ hk => ⟨hk.2, hk.1⟩)), (by (with_reducible repeat (first | apply Kd.R_alloc | apply Kd.R_drewN | apply Kd.R_drew)); exact Kd.R_mono HO_182002.out (fun _ hk => ⟨hk.2, hk.1⟩)), (xb BK175.out), (xb BK176.out), (xb BK177.out), (xb BK181.out), (xb BK187.out), (xs HB.out)⟩)
                                        · skip
                                          refine Kd.R_lit_step (Kd.int .i64) _ 3 ?hg (N := 43) ?hd (xs := ([t186] : List Int)) (inner := [.int .i64 t186]) (ok := fun _ => True) (okp := fun _ => True) ?hr ?hp (fun _ hk => hk) trivial (Below.refl _ _) (Nat.le_refl _) (by simp) ?_; (case hd => rfl); (case hg => rfl); (case hr => first | (go_simp; done) | (go_simp; rfl)); (case hp => exact (Reps.one (show Kd.M (Kd.int .i64) _ _ _ t186 [.int .i64 t186] from rfl) (Reps.none _ _)))
                                          intro v201 w47 ho48 hb hg_ hnew_
                                          clear hg_ hnew_
                                          (first | rw [← Ny200.out] at ho48 | (simp only [Int.reduceToNat] at ho48; rw [← Ny200.out] at ho48))
                                          have n0_ := Aside0.mk (Kd.R_below (xr HO_182000.out) hb)
                                          have n1_ := Aside0.mk (Kd.R_elder' (xr HO_182001.out) (Kd.R_base ho48) hb)
                                          have n2_ := Aside0.mk (Kd.R_elder' (xr HO_182002.out) (Kd.R_base ho48) hb)
                                          have n3_ := Aside0.mk (Kd.R_below (xr HO190.out) hb)
                                          have n4_ := Aside0.mk (Kd.R_lower (Kd.R_new' (Kd.R_new' ho48 (Kd.R_lt (xr HO_182001.out))) (Kd.R_lt (xr HO_182002.out))) (below_size (xs HB.out)))
                                          have n5_ := Aside0.mk (blk_below (g := gb175) (o := .cells #[.int .i64 a0_0, .int .i64 a0_1, .int .i64 a0_2, .int .i64 a0_3] 29 (0, 0)) (xb BK175.out) hb)
                                          have n6_ := Aside0.mk (blk_below (g := gb176) (o := .cells #[.int .i64 x177000_1, .bool x177001_1] 31 (0, 0)) (xb BK176.out) hb)
                                          have n7_ := Aside0.mk (blk_below (g := gb177) (o := .cells #[.slice none 0 0, .slice none 0 0, .slice none 0 0] 92 (0, 0)) (xb BK177.out) hb)
                                          have n8_ := Aside0.mk (blk_below (g := gb181) (o := .cells #[.slice Ao39 x182000_1.length co39, .slice Ao40 x182001_1.length co40, .slice Ao41 x182002_1.length co41] 92 (0, 0)) (xb BK181.out) hb)
                                          have n9_ := Aside0.mk (blk_below (g := gb187) (o := .cells #[.int .i64 t183, .bool t184] 31 (0, 0)) (xb BK187.out) hb)
                                          have n10_ := Aside0.mk (below_step (xs HB.out) hb)
                                          clear HO_182000
                                          clear HO_182001
                                          clear HO_182002
                                          clear HO190
                                          clear BK175
                                          clear BK176
                                          clear BK177
                                          clear BK181
                                          clear BK187
                                          clear HB
                                          have HO_182000 := n0_
                                          have HO_182001 := n1_
                                          have HO_182002 := n2_
                                          have HO190 := n3_
                                          have HO202 := n4_
                                          have BK175 := n5_
                                          have BK176 := n6_
                                          have BK177 := n7_
                                          have BK181 := n8_
                                          have BK187 := n9_
                                          have HB := n10_
                                          clear n0_ n1_ n2_ n3_ n4_ n5_ n6_ n7_ n8_ n9_ n10_
                                          clear hb ho48
                                          refine hK.out _ _ ⟨(blk_cell BK181.out 0).trans rfl, (blk_cell BK181.out 1).trans rfl, (blk_cell BK181.out 2).trans rfl, (blk_cell BK187.out 0).trans rfl, (blk_cell BK187.out 1).trans rfl⟩ (fun hHeld => ?_)
                                          clear hK K
                                          refine norm_ (a' := ?_) ?_ ?_
                                          rotate_left
                                          · show Act.put _ (some 43) _ = _
                                            simp only [Act.put, List.setIfInBounds_toArray, List.set_cons_zero, List.set_cons_succ, i64_w, i32_w]
                                            rfl
                                          exact norm_ (by first | (simp only [putAll, Act.put, List.setIfInBounds_toArray, List.set_cons_zero, List.set_cons_succ]; done) | (simp only [putAll, Act.put, List.setIfInBounds_toArray, List.set_cons_zero, List.set_cons_succ]; rfl)) (hJ3_13 (.slice Ao48 y188.length co48, v201) _ ⟨hHeld, (xr HO190.out), (by (with_reducible repeat (first | apply Kd.R_alloc | apply Kd.R_drewN | apply Kd.R_drew)); exact Kd.R_mono HO202.out (fun _ hk => ⟨hk.1.2, hk.2⟩)), (xr HO_182000.out), (by (with_reducible repeat (first | apply Kd.R_alloc | apply Kd.R_drewN | apply Kd.R_drew)); exact Kd.R_mono HO_182001.out (fun _ hk => ⟨hk.2, hk.1⟩)), (by (with_reducible repeat (first | apply Kd.R_alloc | apply Kd.R_drewN | apply Kd.R_drew)); exact Kd.R_mono HO_182002.out (fun _ hk => ⟨hk.2, hk.1⟩)), (xb BK175.out), (xb BK176.out), (xb BK177.out), (xb BK181.out), (xb BK187.out), (xs HB.out)⟩)
                                    · skip
                                      rintro ⟨v195, v201⟩ w48 ⟨hS_, h0_, h1_, h2_, h3_, h4_, h5_, h6_, h7_, h8_, h9_, h10_⟩
                                      have n0_ : Aside0 (Kd.R (Kd.int .i64) 3 w48 w.heap.size (fun k_ => some k_ ≠ (v201 : Value).ownBlock ∧ some k_ ≠ (.slice Ao40 x182001_1.length co40 : Value).ownBlock ∧ some k_ ≠ (.slice Ao41 x182002_1.length co41 : Value).ownBlock) v195 y194) := ⟨h0_⟩
                                      have n1_ : Aside0 (Kd.R (Kd.int .i64) 3 w48 w.heap.size (fun k_ => some k_ ≠ (v195 : Value).ownBlock ∧ some k_ ≠ (.slice Ao40 x182001_1.length co40 : Value).ownBlock ∧ some k_ ≠ (.slice Ao41 x182002_1.length co41 : Value).ownBlock) v201 y200) := ⟨h1_⟩
                                      have n2_ : Aside0 (Kd.R k31 31 w48 w.heap.size (fun k_ => k_ ≠ gb176 ∧ k_ ≠ gb187) (.slice Ao39 x182000_1.length co39) x182000_1) := ⟨h2_⟩
                                      have n3_ : Aside0 (Kd.R (Kd.int .i64) 3 w48 w.heap.size (fun k_ => some k_ ≠ (v195 : Value).ownBlock ∧ some k_ ≠ (v201 : Value).ownBlock ∧ some k_ ≠ (.slice Ao41 x182002_1.length co41 : Value).ownBlock) (.slice Ao40 x182001_1.length co40) x182001_1) := ⟨h3_⟩
                                      have n4_ : Aside0 (Kd.R (Kd.int .i64) 3 w48 w.heap.size (fun k_ => some k_ ≠ (v195 : Value).ownBlock ∧ some k_ ≠ (v201 : Value).ownBlock ∧ some k_ ≠ (.slice Ao40 x182001_1.length co40 : Value).ownBlock) (.slice Ao41 x182002_1.length co41) x182002_1) := ⟨h4_⟩
                                      have n5_ : Aside0 (w48.heap[gb175]? = some (.cells #[.int .i64 a0_0, .int .i64 a0_1, .int .i64 a0_2, .int .i64 a0_3] 29 (0, 0))) := ⟨h5_⟩
                                      have n6_ : Aside0 (w48.heap[gb176]? = some (.cells #[.int .i64 x177000_1, .bool x177001_1] 31 (0, 0))) := ⟨h6_⟩
                                      have n7_ : Aside0 (w48.heap[gb177]? = some (.cells #[.slice none 0 0, .slice none 0 0, .slice none 0 0] 92 (0, 0))) := ⟨h7_⟩
                                      have n8_ : Aside0 (w48.heap[gb181]? = some (.cells #[.slice Ao39 x182000_1.length co39, .slice Ao40 x182001_1.length co40, .slice Ao41 x182002_1.length co41] 92 (0, 0))) := ⟨h8_⟩
                                      have n9_ : Aside0 (w48.heap[gb187]? = some (.cells #[.int .i64 t183, .bool t184] 31 (0, 0))) := ⟨h9_⟩
                                      have n10_ : Aside0 (Below w.heap.size w w48) := ⟨h10_⟩
                                      clear HO_182000
                                      clear HO_182001
                                      clear HO_182002
                                      clear BK175
                                      clear BK176
                                      clear BK177
                                      clear BK181
                                      clear BK187
                                      clear HB
                                      clear h0_ h1_ h2_ h3_ h4_ h5_ h6_ h7_ h8_ h9_ h10_
                                      have HO196 := n0_
                                      have HO202 := n1_
                                      have HO_182000 := n2_
                                      have HO_182001 := n3_
                                      have HO_182002 := n4_
                                      have BK175 := n5_
                                      have BK176 := n6_
                                      have BK177 := n7_
                                      have BK181 := n8_
                                      have BK187 := n9_
                                      have HB := n10_
                                      clear n0_ n1_ n2_ n3_ n4_ n5_ n6_ n7_ n8_ n9_ n10_
                                      have hHeld : w48.cell? ⟨gb181, 0, none⟩ = some (.slice Ao39 x182000_1.length co39) ∧ w48.cell? ⟨gb181, 1, none⟩ = some (.slice Ao40 x182001_1.length co40) ∧ w48.cell? ⟨gb181, 2, none⟩ = some (.slice Ao41 x182002_1.length co41) ∧ w48.cell? ⟨gb187, 0, none⟩ = some (.int .i64 t183) ∧ w48.cell? ⟨gb187, 1, none⟩ = some (.bool t184) := hS_
                                      refine norm_ (a' := ?_) ?_ ?_
                                      rotate_left
                                      · simp only [putAll, Act.put, List.setIfInBounds_toArray, List.set_cons_zero, List.set_cons_succ]
                                        rfl
                                      refine one_ (i := 3) (N := some 33) #[true, true, true, true, false, true, true, true, true, false, true, true, true, true, false, false, false, false, false, false, false] rfl rfl (one_of HT_.out (by kernel_rfl)) (by decide) (fun K hK => ?_)
                                      refine Kd.R_lit_step k31 _ 31 ?hg (N := 33) ?hd (xs := ([(⟨t183, t184⟩ : S31)] : List (S31))) (inner := [.int .i64 t183, .bool t184]) (ok := fun _ => True) (okp := fun _ => True) ?hr ?hp (fun _ hk => hk) trivial (Below.refl _ _) (Nat.le_refl _) (by simp) ?_; (case hd => rfl); (case hg => rfl); (case hr => first | (go_simp; done) | (go_simp; rfl)); (case hp => exact (Reps.c2 (show Kd.M k31 _ _ _ (⟨t183, t184⟩ : S31) [.int .i64 t183, .bool t184] from (k31_mkM _ _ _ (⟨t183, t184⟩ : S31) )) (Reps.none _ _)))
                                      intro v189 w49 ho50 hb hg_ hnew_
                                      clear hg_ hnew_
                                      (first | rw [← Ny188.out] at ho50 | (simp only [Int.reduceToNat] at ho50; rw [← Ny188.out] at ho50))
                                      have n0_ := Aside0.mk (Kd.R_elder' (xr HO_182000.out) (Kd.R_base ho50) hb)
                                      have n1_ := Aside0.mk (Kd.R_below (xr HO_182001.out) hb)
                                      have n2_ := Aside0.mk (Kd.R_below (xr HO_182002.out) hb)
                                      have n3_ := Aside0.mk (Kd.R_below (xr HO196.out) hb)
                                      have n4_ := Aside0.mk (Kd.R_below (xr HO202.out) hb)
                                      have n5_ := Aside0.mk (Kd.R_lower (Kd.R_newB (Kd.R_newB (Kd.R_new' ho50 (Kd.R_lt (xr HO_182000.out))) (g := gb176) (o := .cells #[.int .i64 x177000_1, .bool x177001_1] 31 (0, 0)) (xb BK176.out)) (g := gb187) (o := .cells #[.int .i64 t183, .bool t184] 31 (0, 0)) (xb BK187.out)) (below_size (xs HB.out)))
                                      have n6_ := Aside0.mk (blk_below (g := gb175) (o := .cells #[.int .i64 a0_0, .int .i64 a0_1, .int .i64 a0_2, .int .i64 a0_3] 29 (0, 0)) (xb BK175.out) hb)
                                      have n7_ := Aside0.mk (blk_below (g := gb176) (o := .cells #[.int .i64 x177000_1, .bool x177001_1] 31 (0, 0)) (xb BK176.out) hb)
                                      have n8_ := Aside0.mk (blk_below (g := gb177) (o := .cells #[.slice none 0 0, .slice none 0 0, .slice none 0 0] 92 (0, 0)) (xb BK177.out) hb)
                                      have n9_ := Aside0.mk (blk_below (g := gb181) (o := .cells #[.slice Ao39 x182000_1.length co39, .slice Ao40 x182001_1.length co40, .slice Ao41 x182002_1.length co41] 92 (0, 0)) (xb BK181.out) hb)
                                      have n10_ := Aside0.mk (blk_below (g := gb187) (o := .cells #[.int .i64 t183, .bool t184] 31 (0, 0)) (xb BK187.out) hb)
                                      have n11_ := Aside0.mk (below_step (xs HB.out) hb)
                                      clear HO_182000
                                      clear HO_182001
                                      clear HO_182002
                                      clear HO196
                                      clear HO202
                                      clear BK175
                                      clear BK176
                                      clear BK177
                                      clear BK181
                                      clear BK187
                                      clear HB
                                      have HO_182000 := n0_
                                      have HO_182001 := n1_
                                      have HO_182002 := n2_
                                      have HO196 := n3_
                                      have HO202 := n4_
                                      have HO190 := n5_
                                      have BK175 := n6_
                                      have BK176 := n7_
                                      have BK177 := n8_
                                      have BK181 := n9_
                                      have BK187 := n10_
                                      have HB := n11_
                                      clear n0_ n1_ n2_ n3_ n4_ n5_ n6_ n7_ n8_ n9_ n10_ n11_
                                      clear hb ho50
                                      refine hK.out _ _ ⟨(blk_cell BK181.out 0).trans rfl, (blk_cell BK181.out 1).trans rfl, (blk_cell BK181.out 2).trans rfl, (blk_cell BK187.out 0).trans rfl, (blk_cell BK187.out 1).trans rfl⟩ (fun hHeld => ?_)
                                      clear hK K
                                      refine norm_ (a' := ?_) ?_ ?_
                                      rotate_left
                                      · show Act.put _ (some 33) _ = _
                                        simp only [Act.put, List.setIfInBounds_toArray, List.set_cons_zero, List.set_cons_succ, i64_w, i32_w]
                                        rfl
                                      exact norm_ (by first | (simp only [putAll, Act.put, List.setIfInBounds_toArray, List.set_cons_zero, List.set_cons_succ]; done) | (simp only [putAll, Act.put, List.setIfInBounds_toArray, List.set_cons_zero, List.set_cons_succ]; rfl)) (hJ3_8_13 (v189, v195, v201) _ ⟨hHeld, (by (with_reducible repeat (first | apply Kd.R_alloc | apply Kd.R_drewN | apply Kd.R_drew)); exact Kd.R_mono HO190.out (fun _ hk => ⟨hk.1.1.2, ⟨hk.1.2, hk.2⟩⟩)), (xr HO196.out), (xr HO202.out), (by (with_reducible repeat (first | apply Kd.R_alloc | apply Kd.R_drewN | apply Kd.R_drew)); exact Kd.R_mono HO_182000.out (fun _ hk => ⟨hk.2, ⟨hk.1.1, hk.1.2⟩⟩)), (xr HO_182001.out), (xr HO_182002.out), (xb BK175.out), (xb BK176.out), (xb BK177.out), (xb BK181.out), (xb BK187.out), (xs HB.out)⟩)
                                  · skip
                                    rintro ⟨v189, v201⟩ w48 ⟨hS_, h0_, h1_, h2_, h3_, h4_, h5_, h6_, h7_, h8_, h9_, h10_⟩
                                    have n0_ : Aside0 (Kd.R k31 31 w48 w.heap.size (fun k_ => some k_ ≠ (.slice Ao39 x182000_1.length co39 : Value).ownBlock ∧ k_ ≠ gb176 ∧ k_ ≠ gb187) v189 y188) := ⟨h0_⟩
                                    have n1_ : Aside0 (Kd.R (Kd.int .i64) 3 w48 w.heap.size (fun k_ => some k_ ≠ (.slice Ao40 x182001_1.length co40 : Value).ownBlock ∧ some k_ ≠ (.slice Ao41 x182002_1.length co41 : Value).ownBlock) v201 y200) := ⟨h1_⟩
                                    have n2_ : Aside0 (Kd.R k31 31 w48 w.heap.size (fun k_ => some k_ ≠ (v189 : Value).ownBlock ∧ k_ ≠ gb176 ∧ k_ ≠ gb187) (.slice Ao39 x182000_1.length co39) x182000_1) := ⟨h2_⟩
                                    have n3_ : Aside0 (Kd.R (Kd.int .i64) 3 w48 w.heap.size (fun k_ => some k_ ≠ (v201 : Value).ownBlock ∧ some k_ ≠ (.slice Ao41 x182002_1.length co41 : Value).ownBlock) (.slice Ao40 x182001_1.length co40) x182001_1) := ⟨h3_⟩
                                    have n4_ : Aside0 (Kd.R (Kd.int .i64) 3 w48 w.heap.size (fun k_ => some k_ ≠ (v201 : Value).ownBlock ∧ some k_ ≠ (.slice Ao40 x182001_1.length co40 : Value).ownBlock) (.slice Ao41 x182002_1.length co41) x182002_1) := ⟨h4_⟩
                                    have n5_ : Aside0 (w48.heap[gb175]? = some (.cells #[.int .i64 a0_0, .int .i64 a0_1, .int .i64 a0_2, .int .i64 a0_3] 29 (0, 0))) := ⟨h5_⟩
                                    have n6_ : Aside0 (w48.heap[gb176]? = some (.cells #[.int .i64 x177000_1, .bool x177001_1] 31 (0, 0))) := ⟨h6_⟩
                                    have n7_ : Aside0 (w48.heap[gb177]? = some (.cells #[.slice none 0 0, .slice none 0 0, .slice none 0 0] 92 (0, 0))) := ⟨h7_⟩
                                    have n8_ : Aside0 (w48.heap[gb181]? = some (.cells #[.slice Ao39 x182000_1.length co39, .slice Ao40 x182001_1.length co40, .slice Ao41 x182002_1.length co41] 92 (0, 0))) := ⟨h8_⟩
                                    have n9_ : Aside0 (w48.heap[gb187]? = some (.cells #[.int .i64 t183, .bool t184] 31 (0, 0))) := ⟨h9_⟩
                                    have n10_ : Aside0 (Below w.heap.size w w48) := ⟨h10_⟩
                                    clear HO_182000
                                    clear HO_182001
                                    clear HO_182002
                                    clear BK175
                                    clear BK176
                                    clear BK177
                                    clear BK181
                                    clear BK187
                                    clear HB
                                    clear h0_ h1_ h2_ h3_ h4_ h5_ h6_ h7_ h8_ h9_ h10_
                                    have HO190 := n0_
                                    have HO202 := n1_
                                    have HO_182000 := n2_
                                    have HO_182001 := n3_
                                    have HO_182002 := n4_
                                    have BK175 := n5_
                                    have BK176 := n6_
                                    have BK177 := n7_
                                    have BK181 := n8_
                                    have BK187 := n9_
                                    have HB := n10_
                                    clear n0_ n1_ n2_ n3_ n4_ n5_ n6_ n7_ n8_ n9_ n10_
                                    have hHeld : w48.cell? ⟨gb181, 0, none⟩ = some (.slice Ao39 x182000_1.length co39) ∧ w48.cell? ⟨gb181, 1, none⟩ = some (.slice Ao40 x182001_1.length co40) ∧ w48.cell? ⟨gb181, 2, none⟩ = some (.slice Ao41 x182002_1.length co41) ∧ w48.cell? ⟨gb187, 0, none⟩ = some (.int .i64 t183) ∧ w48.cell? ⟨gb187, 1, none⟩ = some (.bool t184) := hS_
                                    obtain ⟨Ao50, co50, eo50⟩ := Kd.R_slice HO190.out
                                    (first | subst eo50 | (injection eo50 with f1_ f2_ f3_; have f4_ := f1_.symm; have f5_ := f3_.symm; clear f1_ f2_ f3_; subst f4_; subst f5_))
                                    refine norm_ (a' := ?_) ?_ ?_
                                    rotate_left
                                    · simp only [putAll, Act.put, List.setIfInBounds_toArray, List.set_cons_zero, List.set_cons_succ]
                                      rfl
                                    refine two_ (i := 4) (j := 8) (Ni := some 34) (Nj := some 38) #[true, true, true, true, true, true, true, true, false, false, true, true, true, true, false, false, false, false, false, false, false] #[true, true, true, true, false, true, true, true, true, false, true, true, true, true, false, false, false, false, false, false, false] rfl rfl rfl rfl (two_of HT_.out (by kernel_rfl)) (by decide) (by decide) (fun K hK => ?_) (fun K hK => ?_)
                                    · skip
                                      refine Kd.R_append_rows_step k31 (w0 := w) w.heap.size (by rfl) (.tmp 31) (.tmp 33) 39 31 (.agg #[(.int .i64 0), (.bool false)]) 16 rfl Try.underlying39 info31 rfl (by decide) (by omega) (.slice Ao39 x182000_1.length co39) x182000_1 y188 _ _ _ (fun k_ => some k_ ≠ (.slice Ao50 y188.length co50 : Value).ownBlock ∧ k_ ≠ gb176 ∧ k_ ≠ gb187) (fun _ => False) rfl rfl ?aO ?aR (fun _ _ h => h) (fun _ h => h.elim) ?aF ?aB ?aS ?aL ?_
                                      (case aR => repeat (first | exact (Kd.R_reads' HO190.out).2.2 | (with_reducible refine Kd.C_alloc ?_ _) | (with_reducible refine Kd.C_drewN ?_ _) | (with_reducible refine Kd.C_drew ?_)))
                                      (case aB => exact (xs HB.out))
                                      (case aF => exact (fun k_ hk => ⟨Kd.fresh' (Kd.R_lt (xr HO190.out)) k_ hk, Kd.freshB (g := gb176) (o := .cells #[.int .i64 x177000_1, .bool x177001_1] 31 (0, 0)) (xb BK176.out) k_ hk, Kd.freshB (g := gb187) (o := .cells #[.int .i64 t183, .bool t184] 31 (0, 0)) (xb BK187.out) k_ hk⟩))
                                      (case aO => exact (xr HO_182000.out))
                                      (case aS => exact (below_size (xs HB.out)))
                                      (case aL => have := LMc22.out; omega)
                                      intro v192 w49 ho hb hg hat
                                      rw [← Ny191.out] at ho
                                      have n0_ := Aside0.mk (Kd.R_over' (xr HO_182001.out) (Kd.R_typed (xr HO_182000.out)) (by decide) hg)
                                      have n1_ := Aside0.mk (Kd.R_over' (xr HO_182002.out) (Kd.R_typed (xr HO_182000.out)) (by decide) hg)
                                      have n2_ := Aside0.mk (blk_grown (g := gb175) (o := .cells #[.int .i64 a0_0, .int .i64 a0_1, .int .i64 a0_2, .int .i64 a0_3] 29 (0, 0)) (xb BK175.out) hg (Kd.R_ne HO_182000.out BK175.out (by decide)))
                                      have n3_ := Aside0.mk (blk_grown (g := gb176) (o := .cells #[.int .i64 x177000_1, .bool x177001_1] 31 (0, 0)) (xb BK176.out) hg (Kd.R_away HO_182000.out (fun _ hk => hk.2.1)))
                                      have n4_ := Aside0.mk (blk_grown (g := gb177) (o := .cells #[.slice none 0 0, .slice none 0 0, .slice none 0 0] 92 (0, 0)) (xb BK177.out) hg (Kd.R_ne HO_182000.out BK177.out (by decide)))
                                      have n5_ := Aside0.mk (blk_grown (g := gb181) (o := .cells #[.slice Ao39 x182000_1.length co39, .slice Ao40 x182001_1.length co40, .slice Ao41 x182002_1.length co41] 92 (0, 0)) (xb BK181.out) hg (Kd.R_ne HO_182000.out BK181.out (by decide)))
                                      have n6_ := Aside0.mk (blk_grown (g := gb187) (o := .cells #[.int .i64 t183, .bool t184] 31 (0, 0)) (xb BK187.out) hg (Kd.R_away HO_182000.out (fun _ hk => hk.2.2)))
                                      have n7_ := Aside0.mk (Kd.R_after (ok := (fun k_ => k_ ≠ gb176 ∧ k_ ≠ gb187)) (by (with_reducible repeat (first | apply Kd.R_alloc | apply Kd.R_drewN | apply Kd.R_drew)); exact Kd.R_mono HO190.out (fun _ hk => ⟨⟨hk.2.1, hk.2.2⟩, hk.1⟩)) hg hat)
                                      have n8_ := Aside0.mk (Kd.R_over' (xr HO202.out) (Kd.R_typed (xr HO_182000.out)) (by decide) hg)
                                      have n9_ := Aside0.mk (hb)
                                      have n10_ := Aside0.mk (ho)
                                      clear HO_182001
                                      clear HO_182002
                                      clear BK175
                                      clear BK176
                                      clear BK177
                                      clear BK181
                                      clear BK187
                                      clear HO190
                                      clear HO202
                                      clear HB
                                      clear HO_182000
                                      have HO_182001 := n0_
                                      have HO_182002 := n1_
                                      have BK175 := n2_
                                      have BK176 := n3_
                                      have BK177 := n4_
                                      have BK181 := n5_
                                      have BK187 := n6_
                                      have HO190 := n7_
                                      have HO202 := n8_
                                      have HB := n9_
                                      have HO193 := n10_
                                      clear n0_ n1_ n2_ n3_ n4_ n5_ n6_ n7_ n8_ n9_ n10_
                                      clear ho hb hg hat
                                      refine hK.out _ _ ⟨(blk_cell BK181.out 0).trans rfl, (blk_cell BK181.out 1).trans rfl, (blk_cell BK181.out 2).trans rfl, (blk_cell BK187.out 0).trans rfl, (blk_cell BK187.out 1).trans rfl⟩ (fun hHeld => ?_)
                                      clear hK K
                                      refine norm_ (a' := ?_) ?_ ?_
                                      rotate_left
                                      · show Act.put _ (some 34) _ = _
                                        simp only [Act.put, List.setIfInBounds_toArray, List.set_cons_zero, List.set_cons_succ, i64_w, i32_w]
                                        rfl
                                      refine pure_ (i := 15) (N := some 45) (v := ?_) (a' := ?_) #[true, true, true, true, true, true, true, true, false, false, true, true, true, true, false, true, false, false, false, false, false] rfl rfl (any_of HT_.out (by kernel_rfl)) (fun _ _ _ h => h) (Or.inl ⟨by rfl, ?_⟩) ?_ ?_
                                      rotate_left
                                      · intro w'
                                        go_simp
                                        with_reducible rfl
                                      rotate_left
                                      · simp only [Act.put, List.setIfInBounds_toArray, List.set_cons_zero, List.set_cons_succ, i64_w, i32_w]
                                        rfl
                                      exact norm_ (by first | (simp only [putAll, Act.put, List.setIfInBounds_toArray, List.set_cons_zero, List.set_cons_succ]; done) | (simp only [putAll, Act.put, List.setIfInBounds_toArray, List.set_cons_zero, List.set_cons_succ]; rfl)) (hJ3_4_13 (.slice Ao50 y188.length co50, v192, v201) _ ⟨hHeld, (by (with_reducible repeat (first | apply Kd.R_alloc | apply Kd.R_drewN | apply Kd.R_drew)); exact Kd.R_mono HO190.out (fun _ hk => ⟨hk.2, ⟨hk.1.1, hk.1.2⟩⟩)), (xr HO193.out), (xr HO202.out), (xr HO_182001.out), (xr HO_182002.out), (xb BK175.out), (xb BK176.out), (xb BK177.out), (xb BK181.out), (xb BK187.out), (xs HB.out)⟩)
                                    · skip
                                      refine Kd.R_lit_step (Kd.int .i64) _ 3 ?hg (N := 38) ?hd (xs := ([t185] : List Int)) (inner := [.int .i64 t185]) (ok := fun _ => True) (okp := fun _ => True) ?hr ?hp (fun _ hk => hk) trivial (Below.refl _ _) (Nat.le_refl _) (by simp) ?_; (case hd => rfl); (case hg => rfl); (case hr => first | (go_simp; done) | (go_simp; rfl)); (case hp => exact (Reps.one (show Kd.M (Kd.int .i64) _ _ _ t185 [.int .i64 t185] from rfl) (Reps.none _ _)))
                                      intro v195 w49 ho50 hb hg_ hnew_
                                      clear hg_ hnew_
                                      (first | rw [← Ny194.out] at ho50 | (simp only [Int.reduceToNat] at ho50; rw [← Ny194.out] at ho50))
                                      have n0_ := Aside0.mk (Kd.R_below (xr HO_182000.out) hb)
                                      have n1_ := Aside0.mk (Kd.R_elder' (xr HO_182001.out) (Kd.R_base ho50) hb)
                                      have n2_ := Aside0.mk (Kd.R_elder' (xr HO_182002.out) (Kd.R_base ho50) hb)
                                      have n3_ := Aside0.mk (Kd.R_below (xr HO190.out) hb)
                                      have n4_ := Aside0.mk (Kd.R_elder' (xr HO202.out) (Kd.R_base ho50) hb)
                                      have n5_ := Aside0.mk (Kd.R_lower (Kd.R_new' (Kd.R_new' (Kd.R_new' ho50 (Kd.R_lt (xr HO_182001.out))) (Kd.R_lt (xr HO_182002.out))) (Kd.R_lt (xr HO202.out))) (below_size (xs HB.out)))
                                      have n6_ := Aside0.mk (blk_below (g := gb175) (o := .cells #[.int .i64 a0_0, .int .i64 a0_1, .int .i64 a0_2, .int .i64 a0_3] 29 (0, 0)) (xb BK175.out) hb)
                                      have n7_ := Aside0.mk (blk_below (g := gb176) (o := .cells #[.int .i64 x177000_1, .bool x177001_1] 31 (0, 0)) (xb BK176.out) hb)
                                      have n8_ := Aside0.mk (blk_below (g := gb177) (o := .cells #[.slice none 0 0, .slice none 0 0, .slice none 0 0] 92 (0, 0)) (xb BK177.out) hb)
                                      have n9_ := Aside0.mk (blk_below (g := gb181) (o := .cells #[.slice Ao39 x182000_1.length co39, .slice Ao40 x182001_1.length co40, .slice Ao41 x182002_1.length co41] 92 (0, 0)) (xb BK181.out) hb)
                                      have n10_ := Aside0.mk (blk_below (g := gb187) (o := .cells #[.int .i64 t183, .bool t184] 31 (0, 0)) (xb BK187.out) hb)
                                      have n11_ := Aside0.mk (below_step (xs HB.out) hb)
                                      clear HO_182000
                                      clear HO_182001
                                      clear HO_182002
                                      clear HO190
                                      clear HO202
                                      clear BK175
                                      clear BK176
                                      clear BK177
                                      clear BK181
                                      clear BK187
                                      clear HB
                                      have HO_182000 := n0_
                                      have HO_182001 := n1_
                                      have HO_182002 := n2_
                                      have HO190 := n3_
                                      have HO202 := n4_
                                      have HO196 := n5_
                                      have BK175 := n6_
                                      have BK176 := n7_
                                      have BK177 := n8_
                                      have BK181 := n9_
                                      have BK187 := n10_
                                      have HB := n11_
                                      clear n0_ n1_ n2_ n3_ n4_ n5_ n6_ n7_ n8_ n9_ n10_ n11_
                                      clear hb ho50
                                      refine hK.out _ _ ⟨(blk_cell BK181.out 0).trans rfl, (blk_cell BK181.out 1).trans rfl, (blk_cell BK181.out 2).trans rfl, (blk_cell BK187.out 0).trans rfl, (blk_cell BK187.out 1).trans rfl⟩ (fun hHeld => ?_)
                                      clear hK K
                                      refine norm_ (a' := ?_) ?_ ?_
                                      rotate_left
                                      · show Act.put _ (some 38) _ = _
                                        simp only [Act.put, List.setIfInBounds_toArray, List.set_cons_zero, List.set_cons_succ, i64_w, i32_w]
                                        rfl
                                      exact norm_ (by first | (simp only [putAll, Act.put, List.setIfInBounds_toArray, List.set_cons_zero, List.set_cons_succ]; done) | (simp only [putAll, Act.put, List.setIfInBounds_toArray, List.set_cons_zero, List.set_cons_succ]; rfl)) (hJ3_8_13 (.slice Ao50 y188.length co50, v195, v201) _ ⟨hHeld, (xr HO190.out), (by (with_reducible repeat (first | apply Kd.R_alloc | apply Kd.R_drewN | apply Kd.R_drew)); exact Kd.R_mono HO196.out (fun _ hk => ⟨hk.2, ⟨hk.1.1.2, hk.1.2⟩⟩)), (by (with_reducible repeat (first | apply Kd.R_alloc | apply Kd.R_drewN | apply Kd.R_drew)); exact Kd.R_mono HO202.out (fun _ hk => ⟨hk.2, ⟨hk.1.1, hk.1.2⟩⟩)), (xr HO_182000.out), (by (with_reducible repeat (first | apply Kd.R_alloc | apply Kd.R_drewN | apply Kd.R_drew)); exact Kd.R_mono HO_182001.out (fun _ hk => ⟨hk.2, ⟨hk.1.1, hk.1.2⟩⟩)), (by (with_reducible repeat (first | apply Kd.R_alloc | apply Kd.R_drewN | apply Kd.R_drew)); exact Kd.R_mono HO_182002.out (fun _ hk => ⟨hk.2, ⟨hk.1.1, hk.1.2⟩⟩)), (xb BK175.out), (xb BK176.out), (xb BK177.out), (xb BK181.out), (xb BK187.out), (xs HB.out)⟩)
                                · skip
                                  rintro ⟨v189, v195⟩ w48 ⟨hS_, h0_, h1_, h2_, h3_, h4_, h5_, h6_, h7_, h8_, h9_, h10_⟩
                                  have n0_ : Aside0 (Kd.R k31 31 w48 w.heap.size (fun k_ => some k_ ≠ (.slice Ao39 x182000_1.length co39 : Value).ownBlock ∧ k_ ≠ gb176 ∧ k_ ≠ gb187) v189 y188) := ⟨h0_⟩
                                  have n1_ : Aside0 (Kd.R (Kd.int .i64) 3 w48 w.heap.size (fun k_ => some k_ ≠ (.slice Ao40 x182001_1.length co40 : Value).ownBlock ∧ some k_ ≠ (.slice Ao41 x182002_1.length co41 : Value).ownBlock) v195 y194) := ⟨h1_⟩
                                  have n2_ : Aside0 (Kd.R k31 31 w48 w.heap.size (fun k_ => some k_ ≠ (v189 : Value).ownBlock ∧ k_ ≠ gb176 ∧ k_ ≠ gb187) (.slice Ao39 x182000_1.length co39) x182000_1) := ⟨h2_⟩
                                  have n3_ : Aside0 (Kd.R (Kd.int .i64) 3 w48 w.heap.size (fun k_ => some k_ ≠ (v195 : Value).ownBlock ∧ some k_ ≠ (.slice Ao41 x182002_1.length co41 : Value).ownBlock) (.slice Ao40 x182001_1.length co40) x182001_1) := ⟨h3_⟩
                                  have n4_ : Aside0 (Kd.R (Kd.int .i64) 3 w48 w.heap.size (fun k_ => some k_ ≠ (v195 : Value).ownBlock ∧ some k_ ≠ (.slice Ao40 x182001_1.length co40 : Value).ownBlock) (.slice Ao41 x182002_1.length co41) x182002_1) := ⟨h4_⟩
                                  have n5_ : Aside0 (w48.heap[gb175]? = some (.cells #[.int .i64 a0_0, .int .i64 a0_1, .int .i64 a0_2, .int .i64 a0_3] 29 (0, 0))) := ⟨h5_⟩
                                  have n6_ : Aside0 (w48.heap[gb176]? = some (.cells #[.int .i64 x177000_1, .bool x177001_1] 31 (0, 0))) := ⟨h6_⟩
                                  have n7_ : Aside0 (w48.heap[gb177]? = some (.cells #[.slice none 0 0, .slice none 0 0, .slice none 0 0] 92 (0, 0))) := ⟨h7_⟩
                                  have n8_ : Aside0 (w48.heap[gb181]? = some (.cells #[.slice Ao39 x182000_1.length co39, .slice Ao40 x182001_1.length co40, .slice Ao41 x182002_1.length co41] 92 (0, 0))) := ⟨h8_⟩
                                  have n9_ : Aside0 (w48.heap[gb187]? = some (.cells #[.int .i64 t183, .bool t184] 31 (0, 0))) := ⟨h9_⟩
                                  have n10_ : Aside0 (Below w.heap.size w w48) := ⟨h10_⟩
                                  clear HO_182000
                                  clear HO_182001
                                  clear HO_182002
                                  clear BK175
                                  clear BK176
                                  clear BK177
                                  clear BK181
                                  clear BK187
                                  clear HB
                                  clear h0_ h1_ h2_ h3_ h4_ h5_ h6_ h7_ h8_ h9_ h10_
                                  have HO190 := n0_
                                  have HO196 := n1_
                                  have HO_182000 := n2_
                                  have HO_182001 := n3_
                                  have HO_182002 := n4_
                                  have BK175 := n5_
                                  have BK176 := n6_
                                  have BK177 := n7_
                                  have BK181 := n8_
                                  have BK187 := n9_
                                  have HB := n10_
                                  clear n0_ n1_ n2_ n3_ n4_ n5_ n6_ n7_ n8_ n9_ n10_
                                  have hHeld : w48.cell? ⟨gb181, 0, none⟩ = some (.slice Ao39 x182000_1.length co39) ∧ w48.cell? ⟨gb181, 1, none⟩ = some (.slice Ao40 x182001_1.length co40) ∧ w48.cell? ⟨gb181, 2, none⟩ = some (.slice Ao41 x182002_1.length co41) ∧ w48.cell? ⟨gb187, 0, none⟩ = some (.int .i64 t183) ∧ w48.cell? ⟨gb187, 1, none⟩ = some (.bool t184) := hS_
                                  obtain ⟨Ao50, co50, eo50⟩ := Kd.R_slice HO190.out
                                  (first | subst eo50 | (injection eo50 with f1_ f2_ f3_; have f4_ := f1_.symm; have f5_ := f3_.symm; clear f1_ f2_ f3_; subst f4_; subst f5_))
                                  refine norm_ (a' := ?_) ?_ ?_
                                  rotate_left
                                  · simp only [putAll, Act.put, List.setIfInBounds_toArray, List.set_cons_zero, List.set_cons_succ]
                                    rfl
                                  refine two_ (i := 4) (j := 13) (Ni := some 34) (Nj := some 43) #[true, true, true, true, true, true, true, true, true, false, true, true, true, false, false, false, false, false, false, false, false] #[true, true, true, true, false, true, true, true, true, false, true, true, true, true, false, false, false, false, false, false, false] rfl rfl rfl rfl (two_of HT_.out (by kernel_rfl)) (by decide) (by decide) (fun K hK => ?_) (fun K hK => ?_)
                                  · skip
                                    refine Kd.R_append_rows_step k31 (w0 := w) w.heap.size (by rfl) (.tmp 31) (.tmp 33) 39 31 (.agg #[(.int .i64 0), (.bool false)]) 16 rfl Try.underlying39 info31 rfl (by decide) (by omega) (.slice Ao39 x182000_1.length co39) x182000_1 y188 _ _ _ (fun k_ => some k_ ≠ (.slice Ao50 y188.length co50 : Value).ownBlock ∧ k_ ≠ gb176 ∧ k_ ≠ gb187) (fun _ => False) rfl rfl ?aO ?aR (fun _ _ h => h) (fun _ h => h.elim) ?aF ?aB ?aS ?aL ?_
                                    (case aR => repeat (first | exact (Kd.R_reads' HO190.out).2.2 | (with_reducible refine Kd.C_alloc ?_ _) | (with_reducible refine Kd.C_drewN ?_ _) | (with_reducible refine Kd.C_drew ?_)))
                                    (case aB => exact (xs HB.out))
                                    (case aF => exact (fun k_ hk => ⟨Kd.fresh' (Kd.R_lt (xr HO190.out)) k_ hk, Kd.freshB (g := gb176) (o := .cells #[.int .i64 x177000_1, .bool x177001_1] 31 (0, 0)) (xb BK176.out) k_ hk, Kd.freshB (g := gb187) (o := .cells #[.int .i64 t183, .bool t184] 31 (0, 0)) (xb BK187.out) k_ hk⟩))
                                    (case aO => exact (xr HO_182000.out))
                                    (case aS => exact (below_size (xs HB.out)))
                                    (case aL => have := LMc22.out; omega)
                                    intro v192 w49 ho hb hg hat
                                    rw [← Ny191.out] at ho
                                    have n0_ := Aside0.mk (Kd.R_over' (xr HO_182001.out) (Kd.R_typed (xr HO_182000.out)) (by decide) hg)
                                    have n1_ := Aside0.mk (Kd.R_over' (xr HO_182002.out) (Kd.R_typed (xr HO_182000.out)) (by decide) hg)
                                    have n2_ := Aside0.mk (blk_grown (g := gb175) (o := .cells #[.int .i64 a0_0, .int .i64 a0_1, .int .i64 a0_2, .int .i64 a0_3] 29 (0, 0)) (xb BK175.out) hg (Kd.R_ne HO_182000.out BK175.out (by decide)))
                                    have n3_ := Aside0.mk (blk_grown (g := gb176) (o := .cells #[.int .i64 x177000_1, .bool x177001_1] 31 (0, 0)) (xb BK176.out) hg (Kd.R_away HO_182000.out (fun _ hk => hk.2.1)))
                                    have n4_ := Aside0.mk (blk_grown (g := gb177) (o := .cells #[.slice none 0 0, .slice none 0 0, .slice none 0 0] 92 (0, 0)) (xb BK177.out) hg (Kd.R_ne HO_182000.out BK177.out (by decide)))
                                    have n5_ := Aside0.mk (blk_grown (g := gb181) (o := .cells #[.slice Ao39 x182000_1.length co39, .slice Ao40 x182001_1.length co40, .slice Ao41 x182002_1.length co41] 92 (0, 0)) (xb BK181.out) hg (Kd.R_ne HO_182000.out BK181.out (by decide)))
                                    have n6_ := Aside0.mk (blk_grown (g := gb187) (o := .cells #[.int .i64 t183, .bool t184] 31 (0, 0)) (xb BK187.out) hg (Kd.R_away HO_182000.out (fun _ hk => hk.2.2)))
                                    have n7_ := Aside0.mk (Kd.R_after (ok := (fun k_ => k_ ≠ gb176 ∧ k_ ≠ gb187)) (by (with_reducible repeat (first | apply Kd.R_alloc | apply Kd.R_drewN | apply Kd.R_drew)); exact Kd.R_mono HO190.out (fun _ hk => ⟨⟨hk.2.1, hk.2.2⟩, hk.1⟩)) hg hat)
                                    have n8_ := Aside0.mk (Kd.R_over' (xr HO196.out) (Kd.R_typed (xr HO_182000.out)) (by decide) hg)
                                    have n9_ := Aside0.mk (hb)
                                    have n10_ := Aside0.mk (ho)
                                    clear HO_182001
                                    clear HO_182002
                                    clear BK175
                                    clear BK176
                                    clear BK177
                                    clear BK181
                                    clear BK187
                                    clear HO190
                                    clear HO196
                                    clear HB
                                    clear HO_182000
                                    have HO_182001 := n0_
                                    have HO_182002 := n1_
                                    have BK175 := n2_
                                    have BK176 := n3_
                                    have BK177 := n4_
                                    have BK181 := n5_
                                    have BK187 := n6_
                                    have HO190 := n7_
                                    have HO196 := n8_
                                    have HB := n9_
                                    have HO193 := n10_
                                    clear n0_ n1_ n2_ n3_ n4_ n5_ n6_ n7_ n8_ n9_ n10_
                                    clear ho hb hg hat
                                    refine hK.out _ _ ⟨(blk_cell BK181.out 0).trans rfl, (blk_cell BK181.out 1).trans rfl, (blk_cell BK181.out 2).trans rfl, (blk_cell BK187.out 0).trans rfl, (blk_cell BK187.out 1).trans rfl⟩ (fun hHeld => ?_)
                                    clear hK K
                                    refine norm_ (a' := ?_) ?_ ?_
                                    rotate_left
                                    · show Act.put _ (some 34) _ = _
                                      simp only [Act.put, List.setIfInBounds_toArray, List.set_cons_zero, List.set_cons_succ, i64_w, i32_w]
                                      rfl
                                    refine pure_ (i := 15) (N := some 45) (v := ?_) (a' := ?_) #[true, true, true, true, true, true, true, true, true, false, true, true, true, false, false, true, false, false, false, false, false] rfl rfl (any_of HT_.out (by kernel_rfl)) (fun _ _ _ h => h) (Or.inl ⟨by rfl, ?_⟩) ?_ ?_
                                    rotate_left
                                    · intro w'
                                      go_simp
                                      with_reducible rfl
                                    rotate_left
                                    · simp only [Act.put, List.setIfInBounds_toArray, List.set_cons_zero, List.set_cons_succ, i64_w, i32_w]
                                      rfl
                                    exact norm_ (by first | (simp only [putAll, Act.put, List.setIfInBounds_toArray, List.set_cons_zero, List.set_cons_succ]; done) | (simp only [putAll, Act.put, List.setIfInBounds_toArray, List.set_cons_zero, List.set_cons_succ]; rfl)) (hJ3_4_8 (.slice Ao50 y188.length co50, v192, v195) _ ⟨hHeld, (by (with_reducible repeat (first | apply Kd.R_alloc | apply Kd.R_drewN | apply Kd.R_drew)); exact Kd.R_mono HO190.out (fun _ hk => ⟨hk.2, ⟨hk.1.1, hk.1.2⟩⟩)), (xr HO193.out), (xr HO196.out), (xr HO_182001.out), (xr HO_182002.out), (xb BK175.out), (xb BK176.out), (xb BK177.out), (xb BK181.out), (xb BK187.out), (xs HB.out)⟩)
                                  · skip
                                    refine Kd.R_lit_step (Kd.int .i64) _ 3 ?hg (N := 43) ?hd (xs := ([t186] : List Int)) (inner := [.int .i64 t186]) (ok := fun _ => True) (okp := fun _ => True) ?hr ?hp (fun _ hk => hk) trivial (Below.refl _ _) (Nat.le_refl _) (by simp) ?_; (case hd => rfl); (case hg => rfl); (case hr => first | (go_simp; done) | (go_simp; rfl)); (case hp => exact (Reps.one (show Kd.M (Kd.int .i64) _ _ _ t186 [.int .i64 t186] from rfl) (Reps.none _ _)))
                                    intro v201 w49 ho50 hb hg_ hnew_
                                    clear hg_ hnew_
                                    (first | rw [← Ny200.out] at ho50 | (simp only [Int.reduceToNat] at ho50; rw [← Ny200.out] at ho50))
                                    have n0_ := Aside0.mk (Kd.R_below (xr HO_182000.out) hb)
                                    have n1_ := Aside0.mk (Kd.R_elder' (xr HO_182001.out) (Kd.R_base ho50) hb)
                                    have n2_ := Aside0.mk (Kd.R_elder' (xr HO_182002.out) (Kd.R_base ho50) hb)
                                    have n3_ := Aside0.mk (Kd.R_below (xr HO190.out) hb)
                                    have n4_ := Aside0.mk (Kd.R_elder' (xr HO196.out) (Kd.R_base ho50) hb)
                                    have n5_ := Aside0.mk (Kd.R_lower (Kd.R_new' (Kd.R_new' (Kd.R_new' ho50 (Kd.R_lt (xr HO_182001.out))) (Kd.R_lt (xr HO_182002.out))) (Kd.R_lt (xr HO196.out))) (below_size (xs HB.out)))
                                    have n6_ := Aside0.mk (blk_below (g := gb175) (o := .cells #[.int .i64 a0_0, .int .i64 a0_1, .int .i64 a0_2, .int .i64 a0_3] 29 (0, 0)) (xb BK175.out) hb)
                                    have n7_ := Aside0.mk (blk_below (g := gb176) (o := .cells #[.int .i64 x177000_1, .bool x177001_1] 31 (0, 0)) (xb BK176.out) hb)
                                    have n8_ := Aside0.mk (blk_below (g := gb177) (o := .cells #[.slice none 0 0, .slice none 0 0, .slice none 0 0] 92 (0, 0)) (xb BK177.out) hb)
                                    have n9_ := Aside0.mk (blk_below (g := gb181) (o := .cells #[.slice Ao39 x182000_1.length co39, .slice Ao40 x182001_1.length co40, .slice Ao41 x182002_1.length co41] 92 (0, 0)) (xb BK181.out) hb)
                                    have n10_ := Aside0.mk (blk_below (g := gb187) (o := .cells #[.int .i64 t183, .bool t184] 31 (0, 0)) (xb BK187.out) hb)
                                    have n11_ := Aside0.mk (below_step (xs HB.out) hb)
                                    clear HO_182000
                                    clear HO_182001
                                    clear HO_182002
                                    clear HO190
                                    clear HO196
                                    clear BK175
                                    clear BK176
                                    clear BK177
                                    clear BK181
                                    clear BK187
                                    clear HB
                                    have HO_182000 := n0_
                                    have HO_182001 := n1_
                                    have HO_182002 := n2_
                                    have HO190 := n3_
                                    have HO196 := n4_
                                    have HO202 := n5_
                                    have BK175 := n6_
                                    have BK176 := n7_
                                    have BK177 := n8_
                                    have BK181 := n9_
                                    have BK187 := n10_
                                    have HB := n11_
                                    clear n0_ n1_ n2_ n3_ n4_ n5_ n6_ n7_ n8_ n9_ n10_ n11_
                                    clear hb ho50
                                    refine hK.out _ _ ⟨(blk_cell BK181.out 0).trans rfl, (blk_cell BK181.out 1).trans rfl, (blk_cell BK181.out 2).trans rfl, (blk_cell BK187.out 0).trans rfl, (blk_cell BK187.out 1).trans rfl⟩ (fun hHeld => ?_)
                                    clear hK K
                                    refine norm_ (a' := ?_) ?_ ?_
                                    rotate_left
                                    · show Act.put _ (some 43) _ = _
                                      simp only [Act.put, List.setIfInBounds_toArray, List.set_cons_zero, List.set_cons_succ, i64_w, i32_w]
                                      rfl
                                    exact norm_ (by first | (simp only [putAll, Act.put, List.setIfInBounds_toArray, List.set_cons_zero, List.set_cons_succ]; done) | (simp only [putAll, Act.put, List.setIfInBounds_toArray, List.set_cons_zero, List.set_cons_succ]; rfl)) (hJ3_8_13 (.slice Ao50 y188.length co50, v195, v201) _ ⟨hHeld, (xr HO190.out), (by (with_reducible repeat (first | apply Kd.R_alloc | apply Kd.R_drewN | apply Kd.R_drew)); exact Kd.R_mono HO196.out (fun _ hk => ⟨hk.2, ⟨hk.1.1, hk.1.2⟩⟩)), (by (with_reducible repeat (first | apply Kd.R_alloc | apply Kd.R_drewN | apply Kd.R_drew)); exact Kd.R_mono HO202.out (fun _ hk => ⟨hk.2, ⟨hk.1.1.2, hk.1.2⟩⟩)), (xr HO_182000.out), (by (with_reducible repeat (first | apply Kd.R_alloc | apply Kd.R_drewN | apply Kd.R_drew)); exact Kd.R_mono HO_182001.out (fun _ hk => ⟨hk.1.1, ⟨hk.2, hk.1.2⟩⟩)), (by (with_reducible repeat (first | apply Kd.R_alloc | apply Kd.R_drewN | apply Kd.R_drew)); exact Kd.R_mono HO_182002.out (fun _ hk => ⟨hk.1.1, ⟨hk.2, hk.1.2⟩⟩)), (xb BK175.out), (xb BK176.out), (xb BK177.out), (xb BK181.out), (xb BK187.out), (xs HB.out)⟩)
                              · skip
                                rintro ⟨v189, v192⟩ w48 ⟨hS_, h0_, h1_, h2_, h3_, h4_, h5_, h6_, h7_, h8_, h9_⟩
                                have n0_ : Aside0 (Kd.R k31 31 w48 w.heap.size (fun k_ => some k_ ≠ (v192 : Value).ownBlock ∧ k_ ≠ gb176 ∧ k_ ≠ gb187) v189 y188) := ⟨h0_⟩
                                have n1_ : Aside0 (Kd.R k31 31 w48 w.heap.size (fun k_ => some k_ ≠ (v189 : Value).ownBlock ∧ k_ ≠ gb176 ∧ k_ ≠ gb187) v192 y191) := ⟨h1_⟩
                                have n2_ : Aside0 (Kd.R (Kd.int .i64) 3 w48 w.heap.size (fun k_ => some k_ ≠ (.slice Ao41 x182002_1.length co41 : Value).ownBlock) (.slice Ao40 x182001_1.length co40) x182001_1) := ⟨h2_⟩
                                have n3_ : Aside0 (Kd.R (Kd.int .i64) 3 w48 w.heap.size (fun k_ => some k_ ≠ (.slice Ao40 x182001_1.length co40 : Value).ownBlock) (.slice Ao41 x182002_1.length co41) x182002_1) := ⟨h3_⟩
                                have n4_ : Aside0 (w48.heap[gb175]? = some (.cells #[.int .i64 a0_0, .int .i64 a0_1, .int .i64 a0_2, .int .i64 a0_3] 29 (0, 0))) := ⟨h4_⟩
                                have n5_ : Aside0 (w48.heap[gb176]? = some (.cells #[.int .i64 x177000_1, .bool x177001_1] 31 (0, 0))) := ⟨h5_⟩
                                have n6_ : Aside0 (w48.heap[gb177]? = some (.cells #[.slice none 0 0, .slice none 0 0, .slice none 0 0] 92 (0, 0))) := ⟨h6_⟩
                                have n7_ : Aside0 (w48.heap[gb181]? = some (.cells #[.slice Ao39 x182000_1.length co39, .slice Ao40 x182001_1.length co40, .slice Ao41 x182002_1.length co41] 92 (0, 0))) := ⟨h7_⟩
                                have n8_ : Aside0 (w48.heap[gb187]? = some (.cells #[.int .i64 t183, .bool t184] 31 (0, 0))) := ⟨h8_⟩
                                have n9_ : Aside0 (Below w.heap.size w w48) := ⟨h9_⟩
                                clear HO_182000
                                clear HO_182001
                                clear HO_182002
                                clear BK175
                                clear BK176
                                clear BK177
                                clear BK181
                                clear BK187
                                clear HB
                                clear h0_ h1_ h2_ h3_ h4_ h5_ h6_ h7_ h8_ h9_
                                have HO190 := n0_
                                have HO193 := n1_
                                have HO_182001 := n2_
                                have HO_182002 := n3_
                                have BK175 := n4_
                                have BK176 := n5_
                                have BK177 := n6_
                                have BK181 := n7_
                                have BK187 := n8_
                                have HB := n9_
                                clear n0_ n1_ n2_ n3_ n4_ n5_ n6_ n7_ n8_ n9_
                                have hHeld : w48.cell? ⟨gb181, 0, none⟩ = some (.slice Ao39 x182000_1.length co39) ∧ w48.cell? ⟨gb181, 1, none⟩ = some (.slice Ao40 x182001_1.length co40) ∧ w48.cell? ⟨gb181, 2, none⟩ = some (.slice Ao41 x182002_1.length co41) ∧ w48.cell? ⟨gb187, 0, none⟩ = some (.int .i64 t183) ∧ w48.cell? ⟨gb187, 1, none⟩ = some (.bool t184) := hS_
                                refine norm_ (a' := ?_) ?_ ?_
                                rotate_left
                                · simp only [putAll, Act.put, List.setIfInBounds_toArray, List.set_cons_zero, List.set_cons_succ]
                                  rfl
                                refine two_ (i := 8) (j := 13) (Ni := some 38) (Nj := some 43) #[true, true, true, true, true, true, true, true, true, false, true, true, true, false, false, true, false, false, false, false, false] #[true, true, true, true, true, true, true, true, false, false, true, true, true, true, false, true, false, false, false, false, false] rfl rfl rfl rfl (two_of HT_.out (by kernel_rfl)) (by decide) (by decide) (fun K hK => ?_) (fun K hK => ?_)
                                · skip
                                  refine Kd.R_lit_step (Kd.int .i64) _ 3 ?hg (N := 38) ?hd (xs := ([t185] : List Int)) (inner := [.int .i64 t185]) (ok := fun _ => True) (okp := fun _ => True) ?hr ?hp (fun _ hk => hk) trivial (Below.refl _ _) (Nat.le_refl _) (by simp) ?_; (case hd => rfl); (case hg => rfl); (case hr => first | (go_simp; done) | (go_simp; rfl)); (case hp => exact (Reps.one (show Kd.M (Kd.int .i64) _ _ _ t185 [.int .i64 t185] from rfl) (Reps.none _ _)))
                                  intro v195 w49 ho50 hb hg_ hnew_
                                  clear hg_ hnew_
                                  (first | rw [← Ny194.out] at ho50 | (simp only [Int.reduceToNat] at ho50; rw [← Ny194.out] at ho50))
                                  have n0_ := Aside0.mk (Kd.R_elder' (xr HO_182001.out) (Kd.R_base ho50) hb)
                                  have n1_ := Aside0.mk (Kd.R_elder' (xr HO_182002.out) (Kd.R_base ho50) hb)
                                  have n2_ := Aside0.mk (Kd.R_below (xr HO190.out) hb)
                                  have n3_ := Aside0.mk (Kd.R_below (xr HO193.out) hb)
                                  have n4_ := Aside0.mk (Kd.R_lower (Kd.R_new' (Kd.R_new' ho50 (Kd.R_lt (xr HO_182001.out))) (Kd.R_lt (xr HO_182002.out))) (below_size (xs HB.out)))
                                  have n5_ := Aside0.mk (blk_below (g := gb175) (o := .cells #[.int .i64 a0_0, .int .i64 a0_1, .int .i64 a0_2, .int .i64 a0_3] 29 (0, 0)) (xb BK175.out) hb)
                                  have n6_ := Aside0.mk (blk_below (g := gb176) (o := .cells #[.int .i64 x177000_1, .bool x177001_1] 31 (0, 0)) (xb BK176.out) hb)
                                  have n7_ := Aside0.mk (blk_below (g := gb177) (o := .cells #[.slice none 0 0, .slice none 0 0, .slice none 0 0] 92 (0, 0)) (xb BK177.out) hb)
                                  have n8_ := Aside0.mk (blk_below (g := gb181) (o := .cells #[.slice Ao39 x182000_1.length co39, .slice Ao40 x182001_1.length co40, .slice Ao41 x182002_1.length co41] 92 (0, 0)) (xb BK181.out) hb)
                                  have n9_ := Aside0.mk (blk_below (g := gb187) (o := .cells #[.int .i64 t183, .bool t184] 31 (0, 0)) (xb BK187.out) hb)
                                  have n10_ := Aside0.mk (below_step (xs HB.out) hb)
                                  clear HO_182001
                                  clear HO_182002
                                  clear HO190
                                  clear HO193
                                  clear BK175
                                  clear BK176
                                  clear BK177
                                  clear BK181
                                  clear BK187
                                  clear HB
                                  have HO_182001 := n0_
                                  have HO_182002 := n1_
                                  have HO190 := n2_
                                  have HO193 := n3_
                                  have HO196 := n4_
                                  have BK175 := n5_
                                  have BK176 := n6_
                                  have BK177 := n7_
                                  have BK181 := n8_
                                  have BK187 := n9_
                                  have HB := n10_
                                  clear n0_ n1_ n2_ n3_ n4_ n5_ n6_ n7_ n8_ n9_ n10_
                                  clear hb ho50
                                  refine hK.out _ _ ⟨(blk_cell BK181.out 0).trans rfl, (blk_cell BK181.out 1).trans rfl, (blk_cell BK181.out 2).trans rfl, (blk_cell BK187.out 0).trans rfl, (blk_cell BK187.out 1).trans rfl⟩ (fun hHeld => ?_)
                                  clear hK K
                                  refine norm_ (a' := ?_) ?_ ?_
                                  rotate_left
                                  · show Act.put _ (some 38) _ = _
                                    simp only [Act.put, List.setIfInBounds_toArray, List.set_cons_zero, List.set_cons_succ, i64_w, i32_w]
                                    rfl
                                  exact norm_ (by first | (simp only [putAll, Act.put, List.setIfInBounds_toArray, List.set_cons_zero, List.set_cons_succ]; done) | (simp only [putAll, Act.put, List.setIfInBounds_toArray, List.set_cons_zero, List.set_cons_succ]; rfl)) (hJ3_4_8 (v189, v192, v195) _ ⟨hHeld, (xr HO190.out), (xr HO193.out), (by (with_reducible repeat (first | apply Kd.R_alloc | apply Kd.R_drewN | apply Kd.R_drew)); exact Kd.R_mono HO196.out (fun _ hk => ⟨hk.1.2, hk.2⟩)), (by (with_reducible repeat (first | apply Kd.R_alloc | apply Kd.R_drewN | apply Kd.R_drew)); exact Kd.R_mono HO_182001.out (fun _ hk => ⟨hk.2, hk.1⟩)), (by (with_reducible repeat (first | apply Kd.R_alloc | apply Kd.R_drewN | apply Kd.R_drew)); exact Kd.R_mono HO_182002.out (fun _ hk => ⟨hk.2, hk.1⟩)), (xb BK175.out), (xb BK176.out), (xb BK177.out), (xb BK181.out), (xb BK187.out), (xs HB.out)⟩)
                                · skip
                                  refine Kd.R_lit_step (Kd.int .i64) _ 3 ?hg (N := 43) ?hd (xs := ([t186] : List Int)) (inner := [.int .i64 t186]) (ok := fun _ => True) (okp := fun _ => True) ?hr ?hp (fun _ hk => hk) trivial (Below.refl _ _) (Nat.le_refl _) (by simp) ?_; (case hd => rfl); (case hg => rfl); (case hr => first | (go_simp; done) | (go_simp; rfl)); (case hp => exact (Reps.one (show Kd.M (Kd.int .i64) _ _ _ t186 [.int .i64 t186] from rfl) (Reps.none _ _)))
                                  intro v201 w49 ho50 hb hg_ hnew_
                                  clear hg_ hnew_
                                  (first | rw [← Ny200.out] at ho50 | (simp only [Int.reduceToNat] at ho50; rw [← Ny200.out] at ho50))
                                  have n0_ := Aside0.mk (Kd.R_elder' (xr HO_182001.out) (Kd.R_base ho50) hb)
                                  have n1_ := Aside0.mk (Kd.R_elder' (xr HO_182002.out) (Kd.R_base ho50) hb)
                                  have n2_ := Aside0.mk (Kd.R_below (xr HO190.out) hb)
                                  have n3_ := Aside0.mk (Kd.R_below (xr HO193.out) hb)
                                  have n4_ := Aside0.mk (Kd.R_lower (Kd.R_new' (Kd.R_new' ho50 (Kd.R_lt (xr HO_182001.out))) (Kd.R_lt (xr HO_182002.out))) (below_size (xs HB.out)))
                                  have n5_ := Aside0.mk (blk_below (g := gb175) (o := .cells #[.int .i64 a0_0, .int .i64 a0_1, .int .i64 a0_2, .int .i64 a0_3] 29 (0, 0)) (xb BK175.out) hb)
                                  have n6_ := Aside0.mk (blk_below (g := gb176) (o := .cells #[.int .i64 x177000_1, .bool x177001_1] 31 (0, 0)) (xb BK176.out) hb)
                                  have n7_ := Aside0.mk (blk_below (g := gb177) (o := .cells #[.slice none 0 0, .slice none 0 0, .slice none 0 0] 92 (0, 0)) (xb BK177.out) hb)
                                  have n8_ := Aside0.mk (blk_below (g := gb181) (o := .cells #[.slice Ao39 x182000_1.length co39, .slice Ao40 x182001_1.length co40, .slice Ao41 x182002_1.length co41] 92 (0, 0)) (xb BK181.out) hb)
                                  have n9_ := Aside0.mk (blk_below (g := gb187) (o := .cells #[.int .i64 t183, .bool t184] 31 (0, 0)) (xb BK187.out) hb)
                                  have n10_ := Aside0.mk (below_step (xs HB.out) hb)
                                  clear HO_182001
                                  clear HO_182002
                                  clear HO190
                                  clear HO193
                                  clear BK175
                                  clear BK176
                                  clear BK177
                                  clear BK181
                                  clear BK187
                                  clear HB
                                  have HO_182001 := n0_
                                  have HO_182002 := n1_
                                  have HO190 := n2_
                                  have HO193 := n3_
                                  have HO202 := n4_
                                  have BK175 := n5_
                                  have BK176 := n6_
                                  have BK177 := n7_
                                  have BK181 := n8_
                                  have BK187 := n9_
                                  have HB := n10_
                                  clear n0_ n1_ n2_ n3_ n4_ n5_ n6_ n7_ n8_ n9_ n10_
                                  clear hb ho50
                                  refine hK.out _ _ ⟨(blk_cell BK181.out 0).trans rfl, (blk_cell BK181.out 1).trans rfl, (blk_cell BK181.out 2).trans rfl, (blk_cell BK187.out 0).trans rfl, (blk_cell BK187.out 1).trans rfl⟩ (fun hHeld => ?_)
                                  clear hK K
                                  refine norm_ (a' := ?_) ?_ ?_
                                  rotate_left
                                  · show Act.put _ (some 43) _ = _
                                    simp only [Act.put, List.setIfInBounds_toArray, List.set_cons_zero, List.set_cons_succ, i64_w, i32_w]
                                    rfl
                                  exact norm_ (by first | (simp only [putAll, Act.put, List.setIfInBounds_toArray, List.set_cons_zero, List.set_cons_succ]; done) | (simp only [putAll, Act.put, List.setIfInBounds_toArray, List.set_cons_zero, List.set_cons_succ]; rfl)) (hJ3_4_13 (v189, v192, v201) _ ⟨hHeld, (xr HO190.out), (xr HO193.out), (by (with_reducible repeat (first | apply Kd.R_alloc | apply Kd.R_drewN | apply Kd.R_drew)); exact Kd.R_mono HO202.out (fun _ hk => ⟨hk.1.2, hk.2⟩)), (by (with_reducible repeat (first | apply Kd.R_alloc | apply Kd.R_drewN | apply Kd.R_drew)); exact Kd.R_mono HO_182001.out (fun _ hk => ⟨hk.2, hk.1⟩)), (by (with_reducible repeat (first | apply Kd.R_alloc | apply Kd.R_drewN | apply Kd.R_drew)); exact Kd.R_mono HO_182002.out (fun _ hk => ⟨hk.2, hk.1⟩)), (xb BK175.out), (xb BK176.out), (xb BK177.out), (xb BK181.out), (xb BK187.out), (xs HB.out)⟩)
                            · skip
                              rintro ⟨v189, v195, v201⟩ w50 ⟨hS_, h0_, h1_, h2_, h3_, h4_, h5_, h6_, h7_, h8_, h9_, h10_, h11_⟩
                              have n0_ : Aside0 (Kd.R k31 31 w50 w.heap.size (fun k_ => some k_ ≠ (.slice Ao39 x182000_1.length co39 : Value).ownBlock ∧ k_ ≠ gb176 ∧ k_ ≠ gb187) v189 y188) := ⟨h0_⟩
                              have n1_ : Aside0 (Kd.R (Kd.int .i64) 3 w50 w.heap.size (fun k_ => some k_ ≠ (v201 : Value).ownBlock ∧ some k_ ≠ (.slice Ao40 x182001_1.length co40 : Value).ownBlock ∧ some k_ ≠ (.slice Ao41 x182002_1.length co41 : Value).ownBlock) v195 y194) := ⟨h1_⟩
                              have n2_ : Aside0 (Kd.R (Kd.int .i64) 3 w50 w.heap.size (fun k_ => some k_ ≠ (v195 : Value).ownBlock ∧ some k_ ≠ (.slice Ao40 x182001_1.length co40 : Value).ownBlock ∧ some k_ ≠ (.slice Ao41 x182002_1.length co41 : Value).ownBlock) v201 y200) := ⟨h2_⟩
                              have n3_ : Aside0 (Kd.R k31 31 w50 w.heap.size (fun k_ => some k_ ≠ (v189 : Value).ownBlock ∧ k_ ≠ gb176 ∧ k_ ≠ gb187) (.slice Ao39 x182000_1.length co39) x182000_1) := ⟨h3_⟩
                              have n4_ : Aside0 (Kd.R (Kd.int .i64) 3 w50 w.heap.size (fun k_ => some k_ ≠ (v195 : Value).ownBlock ∧ some k_ ≠ (v201 : Value).ownBlock ∧ some k_ ≠ (.slice Ao41 x182002_1.length co41 : Value).ownBlock) (.slice Ao40 x182001_1.length co40) x182001_1) := ⟨h4_⟩
                              have n5_ : Aside0 (Kd.R (Kd.int .i64) 3 w50 w.heap.size (fun k_ => some k_ ≠ (v195 : Value).ownBlock ∧ some k_ ≠ (v201 : Value).ownBlock ∧ some k_ ≠ (.slice Ao40 x182001_1.length co40 : Value).ownBlock) (.slice Ao41 x182002_1.length co41) x182002_1) := ⟨h5_⟩
                              have n6_ : Aside0 (w50.heap[gb175]? = some (.cells #[.int .i64 a0_0, .int .i64 a0_1, .int .i64 a0_2, .int .i64 a0_3] 29 (0, 0))) := ⟨h6_⟩
                              have n7_ : Aside0 (w50.heap[gb176]? = some (.cells #[.int .i64 x177000_1, .bool x177001_1] 31 (0, 0))) := ⟨h7_⟩
                              have n8_ : Aside0 (w50.heap[gb177]? = some (.cells #[.slice none 0 0, .slice none 0 0, .slice none 0 0] 92 (0, 0))) := ⟨h8_⟩
                              have n9_ : Aside0 (w50.heap[gb181]? = some (.cells #[.slice Ao39 x182000_1.length co39, .slice Ao40 x182001_1.length co40, .slice Ao41 x182002_1.length co41] 92 (0, 0))) := ⟨h9_⟩
                              have n10_ : Aside0 (w50.heap[gb187]? = some (.cells #[.int .i64 t183, .bool t184] 31 (0, 0))) := ⟨h10_⟩
                              have n11_ : Aside0 (Below w.heap.size w w50) := ⟨h11_⟩
                              clear HO_182000
                              clear HO_182001
                              clear HO_182002
                              clear BK175
                              clear BK176
                              clear BK177
                              clear BK181
                              clear BK187
                              clear HB
                              clear h0_ h1_ h2_ h3_ h4_ h5_ h6_ h7_ h8_ h9_ h10_ h11_
                              have HO190 := n0_
                              have HO196 := n1_
                              have HO202 := n2_
                              have HO_182000 := n3_
                              have HO_182001 := n4_
                              have HO_182002 := n5_
                              have BK175 := n6_
                              have BK176 := n7_
                              have BK177 := n8_
                              have BK181 := n9_
                              have BK187 := n10_
                              have HB := n11_
                              clear n0_ n1_ n2_ n3_ n4_ n5_ n6_ n7_ n8_ n9_ n10_ n11_
                              have hHeld : w50.cell? ⟨gb181, 0, none⟩ = some (.slice Ao39 x182000_1.length co39) ∧ w50.cell? ⟨gb181, 1, none⟩ = some (.slice Ao40 x182001_1.length co40) ∧ w50.cell? ⟨gb181, 2, none⟩ = some (.slice Ao41 x182002_1.length co41) ∧ w50.cell? ⟨gb187, 0, none⟩ = some (.int .i64 t183) ∧ w50.cell? ⟨gb187, 1, none⟩ = some (.bool t184) := hS_
                              obtain ⟨Ao52, co52, eo52⟩ := Kd.R_slice HO190.out
                              (first | subst eo52 | (injection eo52 with f1_ f2_ f3_; have f4_ := f1_.symm; have f5_ := f3_.symm; clear f1_ f2_ f3_; subst f4_; subst f5_))
                              refine norm_ (a' := ?_) ?_ ?_
                              rotate_left
                              · simp only [putAll, Act.put, List.setIfInBounds_toArray, List.set_cons_zero, List.set_cons_succ]
                                rfl
                              refine one_ (i := 4) (N := some 34) #[true, true, true, true, true, true, true, true, true, false, true, true, true, true, false, false, false, false, false, false, false] rfl rfl (one_of HT_.out (by kernel_rfl)) (by decide) (fun K hK => ?_)
                              refine Kd.R_append_rows_step k31 (w0 := w) w.heap.size (by rfl) (.tmp 31) (.tmp 33) 39 31 (.agg #[(.int .i64 0), (.bool false)]) 16 rfl Try.underlying39 info31 rfl (by decide) (by omega) (.slice Ao39 x182000_1.length co39) x182000_1 y188 _ _ _ (fun k_ => some k_ ≠ (.slice Ao52 y188.length co52 : Value).ownBlock ∧ k_ ≠ gb176 ∧ k_ ≠ gb187) (fun _ => False) rfl rfl ?aO ?aR (fun _ _ h => h) (fun _ h => h.elim) ?aF ?aB ?aS ?aL ?_
                              (case aR => repeat (first | exact (Kd.R_reads' HO190.out).2.2 | (with_reducible refine Kd.C_alloc ?_ _) | (with_reducible refine Kd.C_drewN ?_ _) | (with_reducible refine Kd.C_drew ?_)))
                              (case aB => exact (xs HB.out))
                              (case aF => exact (fun k_ hk => ⟨Kd.fresh' (Kd.R_lt (xr HO190.out)) k_ hk, Kd.freshB (g := gb176) (o := .cells #[.int .i64 x177000_1, .bool x177001_1] 31 (0, 0)) (xb BK176.out) k_ hk, Kd.freshB (g := gb187) (o := .cells #[.int .i64 t183, .bool t184] 31 (0, 0)) (xb BK187.out) k_ hk⟩))
                              (case aO => exact (xr HO_182000.out))
                              (case aS => exact (below_size (xs HB.out)))
                              (case aL => have := LMc22.out; omega)
                              intro v192 w51 ho hb hg hat
                              rw [← Ny191.out] at ho
                              have n0_ := Aside0.mk (Kd.R_over' (xr HO_182001.out) (Kd.R_typed (xr HO_182000.out)) (by decide) hg)
                              have n1_ := Aside0.mk (Kd.R_over' (xr HO_182002.out) (Kd.R_typed (xr HO_182000.out)) (by decide) hg)
                              have n2_ := Aside0.mk (blk_grown (g := gb175) (o := .cells #[.int .i64 a0_0, .int .i64 a0_1, .int .i64 a0_2, .int .i64 a0_3] 29 (0, 0)) (xb BK175.out) hg (Kd.R_ne HO_182000.out BK175.out (by decide)))
                              have n3_ := Aside0.mk (blk_grown (g := gb176) (o := .cells #[.int .i64 x177000_1, .bool x177001_1] 31 (0, 0)) (xb BK176.out) hg (Kd.R_away HO_182000.out (fun _ hk => hk.2.1)))
                              have n4_ := Aside0.mk (blk_grown (g := gb177) (o := .cells #[.slice none 0 0, .slice none 0 0, .slice none 0 0] 92 (0, 0)) (xb BK177.out) hg (Kd.R_ne HO_182000.out BK177.out (by decide)))
                              have n5_ := Aside0.mk (blk_grown (g := gb181) (o := .cells #[.slice Ao39 x182000_1.length co39, .slice Ao40 x182001_1.length co40, .slice Ao41 x182002_1.length co41] 92 (0, 0)) (xb BK181.out) hg (Kd.R_ne HO_182000.out BK181.out (by decide)))
                              have n6_ := Aside0.mk (blk_grown (g := gb187) (o := .cells #[.int .i64 t183, .bool t184] 31 (0, 0)) (xb BK187.out) hg (Kd.R_away HO_182000.out (fun _ hk => hk.2.2)))
                              have n7_ := Aside0.mk (Kd.R_after (ok := (fun k_ => k_ ≠ gb176 ∧ k_ ≠ gb187)) (by (with_reducible repeat (first | apply Kd.R_alloc | apply Kd.R_drewN | apply Kd.R_drew)); exact Kd.R_mono HO190.out (fun _ hk => ⟨⟨hk.2.1, hk.2.2⟩, hk.1⟩)) hg hat)
                              have n8_ := Aside0.mk (Kd.R_over' (xr HO196.out) (Kd.R_typed (xr HO_182000.out)) (by decide) hg)
                              have n9_ := Aside0.mk (Kd.R_over' (xr HO202.out) (Kd.R_typed (xr HO_182000.out)) (by decide) hg)
                              have n10_ := Aside0.mk (hb)
                              have n11_ := Aside0.mk (ho)
                              clear HO_182001
                              clear HO_182002
                              clear BK175
                              clear BK176
                              clear BK177
                              clear BK181
                              clear BK187
                              clear HO190
                              clear HO196
                              clear HO202
                              clear HB
                              clear HO_182000
                              have HO_182001 := n0_
                              have HO_182002 := n1_
                              have BK175 := n2_
                              have BK176 := n3_
                              have BK177 := n4_
                              have BK181 := n5_
                              have BK187 := n6_
                              have HO190 := n7_
                              have HO196 := n8_
                              have HO202 := n9_
                              have HB := n10_
                              have HO193 := n11_
                              clear n0_ n1_ n2_ n3_ n4_ n5_ n6_ n7_ n8_ n9_ n10_ n11_
                              clear ho hb hg hat
                              refine hK.out _ _ ⟨(blk_cell BK181.out 0).trans rfl, (blk_cell BK181.out 1).trans rfl, (blk_cell BK181.out 2).trans rfl, (blk_cell BK187.out 0).trans rfl, (blk_cell BK187.out 1).trans rfl⟩ (fun hHeld => ?_)
                              clear hK K
                              refine norm_ (a' := ?_) ?_ ?_
                              rotate_left
                              · show Act.put _ (some 34) _ = _
                                simp only [Act.put, List.setIfInBounds_toArray, List.set_cons_zero, List.set_cons_succ, i64_w, i32_w]
                                rfl
                              refine pure_ (i := 15) (N := some 45) (v := ?_) (a' := ?_) #[true, true, true, true, true, true, true, true, true, false, true, true, true, true, false, true, false, false, false, false, false] rfl rfl (any_of HT_.out (by kernel_rfl)) (fun _ _ _ h => h) (Or.inl ⟨by rfl, ?_⟩) ?_ ?_
                              rotate_left
                              · intro w'
                                go_simp
                                with_reducible rfl
                              rotate_left
                              · simp only [Act.put, List.setIfInBounds_toArray, List.set_cons_zero, List.set_cons_succ, i64_w, i32_w]
                                rfl
                              exact norm_ (by first | (simp only [putAll, Act.put, List.setIfInBounds_toArray, List.set_cons_zero, List.set_cons_succ]; done) | (simp only [putAll, Act.put, List.setIfInBounds_toArray, List.set_cons_zero, List.set_cons_succ]; rfl)) (hJ3_4_8_13 (.slice Ao52 y188.length co52, v192, v195, v201) _ ⟨hHeld, (by (with_reducible repeat (first | apply Kd.R_alloc | apply Kd.R_drewN | apply Kd.R_drew)); exact Kd.R_mono HO190.out (fun _ hk => ⟨hk.2, ⟨hk.1.1, hk.1.2⟩⟩)), (xr HO193.out), (xr HO196.out), (xr HO202.out), (xr HO_182001.out), (xr HO_182002.out), (xb BK175.out), (xb BK176.out), (xb BK177.out), (xb BK181.out), (xb BK187.out), (xs HB.out)⟩)
                          · skip
                            rintro ⟨v189, v192, v201⟩ w50 ⟨hS_, h0_, h1_, h2_, h3_, h4_, h5_, h6_, h7_, h8_, h9_, h10_⟩
                            have n0_ : Aside0 (Kd.R k31 31 w50 w.heap.size (fun k_ => some k_ ≠ (v192 : Value).ownBlock ∧ k_ ≠ gb176 ∧ k_ ≠ gb187) v189 y188) := ⟨h0_⟩
                            have n1_ : Aside0 (Kd.R k31 31 w50 w.heap.size (fun k_ => some k_ ≠ (v189 : Value).ownBlock ∧ k_ ≠ gb176 ∧ k_ ≠ gb187) v192 y191) := ⟨h1_⟩
                            have n2_ : Aside0 (Kd.R (Kd.int .i64) 3 w50 w.heap.size (fun k_ => some k_ ≠ (.slice Ao40 x182001_1.length co40 : Value).ownBlock ∧ some k_ ≠ (.slice Ao41 x182002_1.length co41 : Value).ownBlock) v201 y200) := ⟨h2_⟩
                            have n3_ : Aside0 (Kd.R (Kd.int .i64) 3 w50 w.heap.size (fun k_ => some k_ ≠ (v201 : Value).ownBlock ∧ some k_ ≠ (.slice Ao41 x182002_1.length co41 : Value).ownBlock) (.slice Ao40 x182001_1.length co40) x182001_1) := ⟨h3_⟩
                            have n4_ : Aside0 (Kd.R (Kd.int .i64) 3 w50 w.heap.size (fun k_ => some k_ ≠ (v201 : Value).ownBlock ∧ some k_ ≠ (.slice Ao40 x182001_1.length co40 : Value).ownBlock) (.slice Ao41 x182002_1.length co41) x182002_1) := ⟨h4_⟩
                            have n5_ : Aside0 (w50.heap[gb175]? = some (.cells #[.int .i64 a0_0, .int .i64 a0_1, .int .i64 a0_2, .int .i64 a0_3] 29 (0, 0))) := ⟨h5_⟩
                            have n6_ : Aside0 (w50.heap[gb176]? = some (.cells #[.int .i64 x177000_1, .bool x177001_1] 31 (0, 0))) := ⟨h6_⟩
                            have n7_ : Aside0 (w50.heap[gb177]? = some (.cells #[.slice none 0 0, .slice none 0 0, .slice none 0 0] 92 (0, 0))) := ⟨h7_⟩
                            have n8_ : Aside0 (w50.heap[gb181]? = some (.cells #[.slice Ao39 x182000_1.length co39, .slice Ao40 x182001_1.length co40, .slice Ao41 x182002_1.length co41] 92 (0, 0))) := ⟨h8_⟩
                            have n9_ : Aside0 (w50.heap[gb187]? = some (.cells #[.int .i64 t183, .bool t184] 31 (0, 0))) := ⟨h9_⟩
                            have n10_ : Aside0 (Below w.heap.size w w50) := ⟨h10_⟩
                            clear HO_182000
                            clear HO_182001
                            clear HO_182002
                            clear BK175
                            clear BK176
                            clear BK177
                            clear BK181
                            clear BK187
                            clear HB
                            clear h0_ h1_ h2_ h3_ h4_ h5_ h6_ h7_ h8_ h9_ h10_
                            have HO190 := n0_
                            have HO193 := n1_
                            have HO202 := n2_
                            have HO_182001 := n3_
                            have HO_182002 := n4_
                            have BK175 := n5_
                            have BK176 := n6_
                            have BK177 := n7_
                            have BK181 := n8_
                            have BK187 := n9_
                            have HB := n10_
                            clear n0_ n1_ n2_ n3_ n4_ n5_ n6_ n7_ n8_ n9_ n10_
                            have hHeld : w50.cell? ⟨gb181, 0, none⟩ = some (.slice Ao39 x182000_1.length co39) ∧ w50.cell? ⟨gb181, 1, none⟩ = some (.slice Ao40 x182001_1.length co40) ∧ w50.cell? ⟨gb181, 2, none⟩ = some (.slice Ao41 x182002_1.length co41) ∧ w50.cell? ⟨gb187, 0, none⟩ = some (.int .i64 t183) ∧ w50.cell? ⟨gb187, 1, none⟩ = some (.bool t184) := hS_
                            refine norm_ (a' := ?_) ?_ ?_
                            rotate_left
                            · simp only [putAll, Act.put, List.setIfInBounds_toArray, List.set_cons_zero, List.set_cons_succ]
                              rfl
                            refine one_ (i := 8) (N := some 38) #[true, true, true, true, true, true, true, true, true, false, true, true, true, true, false, true, false, false, false, false, false] rfl rfl (one_of HT_.out (by kernel_rfl)) (by decide) (fun K hK => ?_)
                            refine Kd.R_lit_step (Kd.int .i64) _ 3 ?hg (N := 38) ?hd (xs := ([t185] : List Int)) (inner := [.int .i64 t185]) (ok := fun _ => True) (okp := fun _ => True) ?hr ?hp (fun _ hk => hk) trivial (Below.refl _ _) (Nat.le_refl _) (by simp) ?_; (case hd => rfl); (case hg => rfl); (case hr => first | (go_simp; done) | (go_simp; rfl)); (case hp => exact (Reps.one (show Kd.M (Kd.int .i64) _ _ _ t185 [.int .i64 t185] from rfl) (Reps.none _ _)))
                            intro v195 w51 ho52 hb hg_ hnew_
                            clear hg_ hnew_
                            (first | rw [← Ny194.out] at ho52 | (simp only [Int.reduceToNat] at ho52; rw [← Ny194.out] at ho52))
                            have n0_ := Aside0.mk (Kd.R_elder' (xr HO_182001.out) (Kd.R_base ho52) hb)
                            have n1_ := Aside0.mk (Kd.R_elder' (xr HO_182002.out) (Kd.R_base ho52) hb)
                            have n2_ := Aside0.mk (Kd.R_below (xr HO190.out) hb)
                            have n3_ := Aside0.mk (Kd.R_below (xr HO193.out) hb)
                            have n4_ := Aside0.mk (Kd.R_elder' (xr HO202.out) (Kd.R_base ho52) hb)
                            have n5_ := Aside0.mk (Kd.R_lower (Kd.R_new' (Kd.R_new' (Kd.R_new' ho52 (Kd.R_lt (xr HO_182001.out))) (Kd.R_lt (xr HO_182002.out))) (Kd.R_lt (xr HO202.out))) (below_size (xs HB.out)))
                            have n6_ := Aside0.mk (blk_below (g := gb175) (o := .cells #[.int .i64 a0_0, .int .i64 a0_1, .int .i64 a0_2, .int .i64 a0_3] 29 (0, 0)) (xb BK175.out) hb)
                            have n7_ := Aside0.mk (blk_below (g := gb176) (o := .cells #[.int .i64 x177000_1, .bool x177001_1] 31 (0, 0)) (xb BK176.out) hb)
                            have n8_ := Aside0.mk (blk_below (g := gb177) (o := .cells #[.slice none 0 0, .slice none 0 0, .slice none 0 0] 92 (0, 0)) (xb BK177.out) hb)
                            have n9_ := Aside0.mk (blk_below (g := gb181) (o := .cells #[.slice Ao39 x182000_1.length co39, .slice Ao40 x182001_1.length co40, .slice Ao41 x182002_1.length co41] 92 (0, 0)) (xb BK181.out) hb)
                            have n10_ := Aside0.mk (blk_below (g := gb187) (o := .cells #[.int .i64 t183, .bool t184] 31 (0, 0)) (xb BK187.out) hb)
                            have n11_ := Aside0.mk (below_step (xs HB.out) hb)
                            clear HO_182001
                            clear HO_182002
                            clear HO190
                            clear HO193
                            clear HO202
                            clear BK175
                            clear BK176
                            clear BK177
                            clear BK181
                            clear BK187
                            clear HB
                            have HO_182001 := n0_
                            have HO_182002 := n1_
                            have HO190 := n2_
                            have HO193 := n3_
                            have HO202 := n4_
                            have HO196 := n5_
                            have BK175 := n6_
                            have BK176 := n7_
                            have BK177 := n8_
                            have BK181 := n9_
                            have BK187 := n10_
                            have HB := n11_
                            clear n0_ n1_ n2_ n3_ n4_ n5_ n6_ n7_ n8_ n9_ n10_ n11_
                            clear hb ho52
                            refine hK.out _ _ ⟨(blk_cell BK181.out 0).trans rfl, (blk_cell BK181.out 1).trans rfl, (blk_cell BK181.out 2).trans rfl, (blk_cell BK187.out 0).trans rfl, (blk_cell BK187.out 1).trans rfl⟩ (fun hHeld => ?_)
                            clear hK K
                            refine norm_ (a' := ?_) ?_ ?_
                            rotate_left
                            · show Act.put _ (some 38) _ = _
                              simp only [Act.put, List.setIfInBounds_toArray, List.set_cons_zero, List.set_cons_succ, i64_w, i32_w]
                              rfl
                            exact norm_ (by first | (simp only [putAll, Act.put, List.setIfInBounds_toArray, List.set_cons_zero, List.set_cons_succ]; done) | (simp only [putAll, Act.put, List.setIfInBounds_toArray, List.set_cons_zero, List.set_cons_succ]; rfl)) (hJ3_4_8_13 (v189, v192, v195, v201) _ ⟨hHeld, (xr HO190.out), (xr HO193.out), (by (with_reducible repeat (first | apply Kd.R_alloc | apply Kd.R_drewN | apply Kd.R_drew)); exact Kd.R_mono HO196.out (fun _ hk => ⟨hk.2, ⟨hk.1.1.2, hk.1.2⟩⟩)), (by (with_reducible repeat (first | apply Kd.R_alloc | apply Kd.R_drewN | apply Kd.R_drew)); exact Kd.R_mono HO202.out (fun _ hk => ⟨hk.2, ⟨hk.1.1, hk.1.2⟩⟩)), (by (with_reducible repeat (first | apply Kd.R_alloc | apply Kd.R_drewN | apply Kd.R_drew)); exact Kd.R_mono HO_182001.out (fun _ hk => ⟨hk.2, ⟨hk.1.1, hk.1.2⟩⟩)), (by (with_reducible repeat (first | apply Kd.R_alloc | apply Kd.R_drewN | apply Kd.R_drew)); exact Kd.R_mono HO_182002.out (fun _ hk => ⟨hk.2, ⟨hk.1.1, hk.1.2⟩⟩)), (xb BK175.out), (xb BK176.out), (xb BK177.out), (xb BK181.out), (xb BK187.out), (xs HB.out)⟩)
                        · skip
                          rintro ⟨v189, v192, v195⟩ w50 ⟨hS_, h0_, h1_, h2_, h3_, h4_, h5_, h6_, h7_, h8_, h9_, h10_⟩
                          have n0_ : Aside0 (Kd.R k31 31 w50 w.heap.size (fun k_ => some k_ ≠ (v192 : Value).ownBlock ∧ k_ ≠ gb176 ∧ k_ ≠ gb187) v189 y188) := ⟨h0_⟩
                          have n1_ : Aside0 (Kd.R k31 31 w50 w.heap.size (fun k_ => some k_ ≠ (v189 : Value).ownBlock ∧ k_ ≠ gb176 ∧ k_ ≠ gb187) v192 y191) := ⟨h1_⟩
                          have n2_ : Aside0 (Kd.R (Kd.int .i64) 3 w50 w.heap.size (fun k_ => some k_ ≠ (.slice Ao40 x182001_1.length co40 : Value).ownBlock ∧ some k_ ≠ (.slice Ao41 x182002_1.length co41 : Value).ownBlock) v195 y194) := ⟨h2_⟩
                          have n3_ : Aside0 (Kd.R (Kd.int .i64) 3 w50 w.heap.size (fun k_ => some k_ ≠ (v195 : Value).ownBlock ∧ some k_ ≠ (.slice Ao41 x182002_1.length co41 : Value).ownBlock) (.slice Ao40 x182001_1.length co40) x182001_1) := ⟨h3_⟩
                          have n4_ : Aside0 (Kd.R (Kd.int .i64) 3 w50 w.heap.size (fun k_ => some k_ ≠ (v195 : Value).ownBlock ∧ some k_ ≠ (.slice Ao40 x182001_1.length co40 : Value).ownBlock) (.slice Ao41 x182002_1.length co41) x182002_1) := ⟨h4_⟩
                          have n5_ : Aside0 (w50.heap[gb175]? = some (.cells #[.int .i64 a0_0, .int .i64 a0_1, .int .i64 a0_2, .int .i64 a0_3] 29 (0, 0))) := ⟨h5_⟩
                          have n6_ : Aside0 (w50.heap[gb176]? = some (.cells #[.int .i64 x177000_1, .bool x177001_1] 31 (0, 0))) := ⟨h6_⟩
                          have n7_ : Aside0 (w50.heap[gb177]? = some (.cells #[.slice none 0 0, .slice none 0 0, .slice none 0 0] 92 (0, 0))) := ⟨h7_⟩
                          have n8_ : Aside0 (w50.heap[gb181]? = some (.cells #[.slice Ao39 x182000_1.length co39, .slice Ao40 x182001_1.length co40, .slice Ao41 x182002_1.length co41] 92 (0, 0))) := ⟨h8_⟩
                          have n9_ : Aside0 (w50.heap[gb187]? = some (.cells #[.int .i64 t183, .bool t184] 31 (0, 0))) := ⟨h9_⟩
                          have n10_ : Aside0 (Below w.heap.size w w50) := ⟨h10_⟩
                          clear HO_182000
                          clear HO_182001
                          clear HO_182002
                          clear BK175
                          clear BK176
                          clear BK177
                          clear BK181
                          clear BK187
                          clear HB
                          clear h0_ h1_ h2_ h3_ h4_ h5_ h6_ h7_ h8_ h9_ h10_
                          have HO190 := n0_
                          have HO193 := n1_
                          have HO196 := n2_
                          have HO_182001 := n3_
                          have HO_182002 := n4_
                          have BK175 := n5_
                          have BK176 := n6_
                          have BK177 := n7_
                          have BK181 := n8_
                          have BK187 := n9_
                          have HB := n10_
                          clear n0_ n1_ n2_ n3_ n4_ n5_ n6_ n7_ n8_ n9_ n10_
                          have hHeld : w50.cell? ⟨gb181, 0, none⟩ = some (.slice Ao39 x182000_1.length co39) ∧ w50.cell? ⟨gb181, 1, none⟩ = some (.slice Ao40 x182001_1.length co40) ∧ w50.cell? ⟨gb181, 2, none⟩ = some (.slice Ao41 x182002_1.length co41) ∧ w50.cell? ⟨gb187, 0, none⟩ = some (.int .i64 t183) ∧ w50.cell? ⟨gb187, 1, none⟩ = some (.bool t184) := hS_
                          obtain ⟨Ao52, co52, eo52⟩ := Kd.R_slice HO196.out
                          (first | subst eo52 | (injection eo52 with f1_ f2_ f3_; have f4_ := f1_.symm; have f5_ := f3_.symm; clear f1_ f2_ f3_; subst f4_; subst f5_))
                          refine norm_ (a' := ?_) ?_ ?_
                          rotate_left
                          · simp only [putAll, Act.put, List.setIfInBounds_toArray, List.set_cons_zero, List.set_cons_succ]
                            rfl
                          refine two_ (i := 9) (j := 13) (Ni := some 39) (Nj := some 43) #[true, true, true, true, true, true, true, true, true, true, true, true, true, false, false, true, false, false, false, false, false] #[true, true, true, true, true, true, true, true, true, false, true, true, true, true, false, true, false, false, false, false, false] rfl rfl rfl rfl (two_of HT_.out (by kernel_rfl)) (by decide) (by decide) (fun K hK => ?_) (fun K hK => ?_)
                          · skip
                            refine Kd.R_append_rows_step (Kd.int .i64) (w0 := w) w.heap.size (by rfl) (.tmp 36) (.tmp 38) 26 3 (.int .i64 0) 8 rfl Try.underlying26 info3 rfl (by decide) (by omega) (.slice Ao40 x182001_1.length co40) x182001_1 y194 _ _ _ (fun k_ => some k_ ≠ (.slice Ao41 x182002_1.length co41 : Value).ownBlock ∧ some k_ ≠ (.slice Ao52 y194.length co52 : Value).ownBlock) (fun _ => False) rfl rfl ?aO ?aR (fun _ _ h => h) (fun _ h => h.elim) ?aF ?aB ?aS ?aL ?_
                            (case aR => repeat (first | exact (Kd.R_reads' HO196.out).2.2 | (with_reducible refine Kd.C_alloc ?_ _) | (with_reducible refine Kd.C_drewN ?_ _) | (with_reducible refine Kd.C_drew ?_)))
                            (case aB => exact (xs HB.out))
                            (case aF => exact (fun k_ hk => ⟨Kd.fresh' (Kd.R_lt (xr HO_182002.out)) k_ hk, Kd.fresh' (Kd.R_lt (xr HO196.out)) k_ hk⟩))
                            (case aO => exact (by (with_reducible repeat (first | apply Kd.R_alloc | apply Kd.R_drewN | apply Kd.R_drew)); exact Kd.R_mono HO_182001.out (fun _ hk => ⟨hk.2, hk.1⟩)))
                            (case aS => exact (below_size (xs HB.out)))
                            (case aL => have := LMc23.out; omega)
                            intro v198 w51 ho hb hg hat
                            rw [← Ny197.out] at ho
                            have n0_ := Aside0.mk (Kd.R_after (ok := (fun k_ => some k_ ≠ (.slice Ao52 y194.length co52 : Value).ownBlock)) (xr HO_182002.out) hg hat)
                            have n1_ := Aside0.mk (blk_grown (g := gb175) (o := .cells #[.int .i64 a0_0, .int .i64 a0_1, .int .i64 a0_2, .int .i64 a0_3] 29 (0, 0)) (xb BK175.out) hg (Kd.R_ne HO_182001.out BK175.out (by decide)))
                            have n2_ := Aside0.mk (blk_grown (g := gb176) (o := .cells #[.int .i64 x177000_1, .bool x177001_1] 31 (0, 0)) (xb BK176.out) hg (Kd.R_ne HO_182001.out BK176.out (by decide)))
                            have n3_ := Aside0.mk (blk_grown (g := gb177) (o := .cells #[.slice none 0 0, .slice none 0 0, .slice none 0 0] 92 (0, 0)) (xb BK177.out) hg (Kd.R_ne HO_182001.out BK177.out (by decide)))
                            have n4_ := Aside0.mk (blk_grown (g := gb181) (o := .cells #[.slice Ao39 x182000_1.length co39, .slice Ao40 x182001_1.length co40, .slice Ao41 x182002_1.length co41] 92 (0, 0)) (xb BK181.out) hg (Kd.R_ne HO_182001.out BK181.out (by decide)))
                            have n5_ := Aside0.mk (blk_grown (g := gb187) (o := .cells #[.int .i64 t183, .bool t184] 31 (0, 0)) (xb BK187.out) hg (Kd.R_ne HO_182001.out BK187.out (by decide)))
                            have n6_ := Aside0.mk (Kd.R_over' (xr HO190.out) (Kd.R_typed (xr HO_182001.out)) (by decide) hg)
                            have n7_ := Aside0.mk (Kd.R_over' (xr HO193.out) (Kd.R_typed (xr HO_182001.out)) (by decide) hg)
                            have n8_ := Aside0.mk (Kd.R_after (ok := (fun k_ => some k_ ≠ (.slice Ao41 x182002_1.length co41 : Value).ownBlock)) (by (with_reducible repeat (first | apply Kd.R_alloc | apply Kd.R_drewN | apply Kd.R_drew)); exact Kd.R_mono HO196.out (fun _ hk => ⟨hk.2, hk.1⟩)) hg hat)
                            have n9_ := Aside0.mk (hb)
                            have n10_ := Aside0.mk (ho)
                            clear HO_182002
                            clear BK175
                            clear BK176
                            clear BK177
                            clear BK181
                            clear BK187
                            clear HO190
                            clear HO193
                            clear HO196
                            clear HB
                            clear HO_182001
                            have HO_182002 := n0_
                            have BK175 := n1_
                            have BK176 := n2_
                            have BK177 := n3_
                            have BK181 := n4_
                            have BK187 := n5_
                            have HO190 := n6_
                            have HO193 := n7_
                            have HO196 := n8_
                            have HB := n9_
                            have HO199 := n10_
                            clear n0_ n1_ n2_ n3_ n4_ n5_ n6_ n7_ n8_ n9_ n10_
                            clear ho hb hg hat
                            refine hK.out _ _ ⟨(blk_cell BK181.out 0).trans rfl, (blk_cell BK181.out 1).trans rfl, (blk_cell BK181.out 2).trans rfl, (blk_cell BK187.out 0).trans rfl, (blk_cell BK187.out 1).trans rfl⟩ (fun hHeld => ?_)
                            clear hK K
                            refine norm_ (a' := ?_) ?_ ?_
                            rotate_left
                            · show Act.put _ (some 39) _ = _
                              simp only [Act.put, List.setIfInBounds_toArray, List.set_cons_zero, List.set_cons_succ, i64_w, i32_w]
                              rfl
                            exact norm_ (by first | (simp only [putAll, Act.put, List.setIfInBounds_toArray, List.set_cons_zero, List.set_cons_succ]; done) | (simp only [putAll, Act.put, List.setIfInBounds_toArray, List.set_cons_zero, List.set_cons_succ]; rfl)) (hJ3_4_8_9 (v189, v192, .slice Ao52 y194.length co52, v198) _ ⟨hHeld, (xr HO190.out), (xr HO193.out), (by (with_reducible repeat (first | apply Kd.R_alloc | apply Kd.R_drewN | apply Kd.R_drew)); exact Kd.R_mono HO196.out (fun _ hk => ⟨hk.2, hk.1⟩)), (by (with_reducible repeat (first | apply Kd.R_alloc | apply Kd.R_drewN | apply Kd.R_drew)); exact Kd.R_mono HO199.out (fun _ hk => ⟨hk.2, hk.1⟩)), (xr HO_182002.out), (xb BK175.out), (xb BK176.out), (xb BK177.out), (xb BK181.out), (xb BK187.out), (xs HB.out)⟩)
                          · skip
                            refine Kd.R_lit_step (Kd.int .i64) _ 3 ?hg (N := 43) ?hd (xs := ([t186] : List Int)) (inner := [.int .i64 t186]) (ok := fun _ => True) (okp := fun _ => True) ?hr ?hp (fun _ hk => hk) trivial (Below.refl _ _) (Nat.le_refl _) (by simp) ?_; (case hd => rfl); (case hg => rfl); (case hr => first | (go_simp; done) | (go_simp; rfl)); (case hp => exact (Reps.one (show Kd.M (Kd.int .i64) _ _ _ t186 [.int .i64 t186] from rfl) (Reps.none _ _)))
                            intro v201 w51 ho52 hb hg_ hnew_
                            clear hg_ hnew_
                            (first | rw [← Ny200.out] at ho52 | (simp only [Int.reduceToNat] at ho52; rw [← Ny200.out] at ho52))
                            have n0_ := Aside0.mk (Kd.R_elder' (xr HO_182001.out) (Kd.R_base ho52) hb)
                            have n1_ := Aside0.mk (Kd.R_elder' (xr HO_182002.out) (Kd.R_base ho52) hb)
                            have n2_ := Aside0.mk (Kd.R_below (xr HO190.out) hb)
                            have n3_ := Aside0.mk (Kd.R_below (xr HO193.out) hb)
                            have n4_ := Aside0.mk (Kd.R_elder' (xr HO196.out) (Kd.R_base ho52) hb)
                            have n5_ := Aside0.mk (Kd.R_lower (Kd.R_new' (Kd.R_new' (Kd.R_new' ho52 (Kd.R_lt (xr HO_182001.out))) (Kd.R_lt (xr HO_182002.out))) (Kd.R_lt (xr HO196.out))) (below_size (xs HB.out)))
                            have n6_ := Aside0.mk (blk_below (g := gb175) (o := .cells #[.int .i64 a0_0, .int .i64 a0_1, .int .i64 a0_2, .int .i64 a0_3] 29 (0, 0)) (xb BK175.out) hb)
                            have n7_ := Aside0.mk (blk_below (g := gb176) (o := .cells #[.int .i64 x177000_1, .bool x177001_1] 31 (0, 0)) (xb BK176.out) hb)
                            have n8_ := Aside0.mk (blk_below (g := gb177) (o := .cells #[.slice none 0 0, .slice none 0 0, .slice none 0 0] 92 (0, 0)) (xb BK177.out) hb)
                            have n9_ := Aside0.mk (blk_below (g := gb181) (o := .cells #[.slice Ao39 x182000_1.length co39, .slice Ao40 x182001_1.length co40, .slice Ao41 x182002_1.length co41] 92 (0, 0)) (xb BK181.out) hb)
                            have n10_ := Aside0.mk (blk_below (g := gb187) (o := .cells #[.int .i64 t183, .bool t184] 31 (0, 0)) (xb BK187.out) hb)
                            have n11_ := Aside0.mk (below_step (xs HB.out) hb)
                            clear HO_182001
                            clear HO_182002
                            clear HO190
                            clear HO193
                            clear HO196
                            clear BK175
                            clear BK176
                            clear BK177
                            clear BK181
                            clear BK187
                            clear HB
                            have HO_182001 := n0_
                            have HO_182002 := n1_
                            have HO190 := n2_
                            have HO193 := n3_
                            have HO196 := n4_
                            have HO202 := n5_
                            have BK175 := n6_
                            have BK176 := n7_
                            have BK177 := n8_
                            have BK181 := n9_
                            have BK187 := n10_
                            have HB := n11_
                            clear n0_ n1_ n2_ n3_ n4_ n5_ n6_ n7_ n8_ n9_ n10_ n11_
                            clear hb ho52
                            refine hK.out _ _ ⟨(blk_cell BK181.out 0).trans rfl, (blk_cell BK181.out 1).trans rfl, (blk_cell BK181.out 2).trans rfl, (blk_cell BK187.out 0).trans rfl, (blk_cell BK187.out 1).trans rfl⟩ (fun hHeld => ?_)
                            clear hK K
                            refine norm_ (a' := ?_) ?_ ?_
                            rotate_left
                            · show Act.put _ (some 43) _ = _
                              simp only [Act.put, List.setIfInBounds_toArray, List.set_cons_zero, List.set_cons_succ, i64_w, i32_w]
                              rfl
                            exact norm_ (by first | (simp only [putAll, Act.put, List.setIfInBounds_toArray, List.set_cons_zero, List.set_cons_succ]; done) | (simp only [putAll, Act.put, List.setIfInBounds_toArray, List.set_cons_zero, List.set_cons_succ]; rfl)) (hJ3_4_8_13 (v189, v192, .slice Ao52 y194.length co52, v201) _ ⟨hHeld, (xr HO190.out), (xr HO193.out), (by (with_reducible repeat (first | apply Kd.R_alloc | apply Kd.R_drewN | apply Kd.R_drew)); exact Kd.R_mono HO196.out (fun _ hk => ⟨hk.2, ⟨hk.1.1, hk.1.2⟩⟩)), (by (with_reducible repeat (first | apply Kd.R_alloc | apply Kd.R_drewN | apply Kd.R_drew)); exact Kd.R_mono HO202.out (fun _ hk => ⟨hk.2, ⟨hk.1.1.2, hk.1.2⟩⟩)), (by (with_reducible repeat (first | apply Kd.R_alloc | apply Kd.R_drewN | apply Kd.R_drew)); exact Kd.R_mono HO_182001.out (fun _ hk => ⟨hk.1.1, ⟨hk.2, hk.1.2⟩⟩)), (by (with_reducible repeat (first | apply Kd.R_alloc | apply Kd.R_drewN | apply Kd.R_drew)); exact Kd.R_mono HO_182002.out (fun _ hk => ⟨hk.1.1, ⟨hk.2, hk.1.2⟩⟩)), (xb BK175.out), (xb BK176.out), (xb BK177.out), (xb BK181.out), (xb BK187.out), (xs HB.out)⟩)
                      · skip
                        rintro ⟨v189, v192, v195, v201⟩ w52 ⟨hS_, h0_, h1_, h2_, h3_, h4_, h5_, h6_, h7_, h8_, h9_, h10_, h11_⟩
                        have n0_ : Aside0 (Kd.R k31 31 w52 w.heap.size (fun k_ => some k_ ≠ (v192 : Value).ownBlock ∧ k_ ≠ gb176 ∧ k_ ≠ gb187) v189 y188) := ⟨h0_⟩
                        have n1_ : Aside0 (Kd.R k31 31 w52 w.heap.size (fun k_ => some k_ ≠ (v189 : Value).ownBlock ∧ k_ ≠ gb176 ∧ k_ ≠ gb187) v192 y191) := ⟨h1_⟩
                        have n2_ : Aside0 (Kd.R (Kd.int .i64) 3 w52 w.heap.size (fun k_ => some k_ ≠ (v201 : Value).ownBlock ∧ some k_ ≠ (.slice Ao40 x182001_1.length co40 : Value).ownBlock ∧ some k_ ≠ (.slice Ao41 x182002_1.length co41 : Value).ownBlock) v195 y194) := ⟨h2_⟩
                        have n3_ : Aside0 (Kd.R (Kd.int .i64) 3 w52 w.heap.size (fun k_ => some k_ ≠ (v195 : Value).ownBlock ∧ some k_ ≠ (.slice Ao40 x182001_1.length co40 : Value).ownBlock ∧ some k_ ≠ (.slice Ao41 x182002_1.length co41 : Value).ownBlock) v201 y200) := ⟨h3_⟩
                        have n4_ : Aside0 (Kd.R (Kd.int .i64) 3 w52 w.heap.size (fun k_ => some k_ ≠ (v195 : Value).ownBlock ∧ some k_ ≠ (v201 : Value).ownBlock ∧ some k_ ≠ (.slice Ao41 x182002_1.length co41 : Value).ownBlock) (.slice Ao40 x182001_1.length co40) x182001_1) := ⟨h4_⟩
                        have n5_ : Aside0 (Kd.R (Kd.int .i64) 3 w52 w.heap.size (fun k_ => some k_ ≠ (v195 : Value).ownBlock ∧ some k_ ≠ (v201 : Value).ownBlock ∧ some k_ ≠ (.slice Ao40 x182001_1.length co40 : Value).ownBlock) (.slice Ao41 x182002_1.length co41) x182002_1) := ⟨h5_⟩
                        have n6_ : Aside0 (w52.heap[gb175]? = some (.cells #[.int .i64 a0_0, .int .i64 a0_1, .int .i64 a0_2, .int .i64 a0_3] 29 (0, 0))) := ⟨h6_⟩
                        have n7_ : Aside0 (w52.heap[gb176]? = some (.cells #[.int .i64 x177000_1, .bool x177001_1] 31 (0, 0))) := ⟨h7_⟩
                        have n8_ : Aside0 (w52.heap[gb177]? = some (.cells #[.slice none 0 0, .slice none 0 0, .slice none 0 0] 92 (0, 0))) := ⟨h8_⟩
                        have n9_ : Aside0 (w52.heap[gb181]? = some (.cells #[.slice Ao39 x182000_1.length co39, .slice Ao40 x182001_1.length co40, .slice Ao41 x182002_1.length co41] 92 (0, 0))) := ⟨h9_⟩
                        have n10_ : Aside0 (w52.heap[gb187]? = some (.cells #[.int .i64 t183, .bool t184] 31 (0, 0))) := ⟨h10_⟩
                        have n11_ : Aside0 (Below w.heap.size w w52) := ⟨h11_⟩
                        clear HO_182000
                        clear HO_182001
                        clear HO_182002
                        clear BK175
                        clear BK176
                        clear BK177
                        clear BK181
                        clear BK187
                        clear HB
                        clear h0_ h1_ h2_ h3_ h4_ h5_ h6_ h7_ h8_ h9_ h10_ h11_
                        have HO190 := n0_
                        have HO193 := n1_
                        have HO196 := n2_
                        have HO202 := n3_
                        have HO_182001 := n4_
                        have HO_182002 := n5_
                        have BK175 := n6_
                        have BK176 := n7_
                        have BK177 := n8_
                        have BK181 := n9_
                        have BK187 := n10_
                        have HB := n11_
                        clear n0_ n1_ n2_ n3_ n4_ n5_ n6_ n7_ n8_ n9_ n10_ n11_
                        have hHeld : w52.cell? ⟨gb181, 0, none⟩ = some (.slice Ao39 x182000_1.length co39) ∧ w52.cell? ⟨gb181, 1, none⟩ = some (.slice Ao40 x182001_1.length co40) ∧ w52.cell? ⟨gb181, 2, none⟩ = some (.slice Ao41 x182002_1.length co41) ∧ w52.cell? ⟨gb187, 0, none⟩ = some (.int .i64 t183) ∧ w52.cell? ⟨gb187, 1, none⟩ = some (.bool t184) := hS_
                        obtain ⟨Ao54, co54, eo54⟩ := Kd.R_slice HO196.out
                        (first | subst eo54 | (injection eo54 with f1_ f2_ f3_; have f4_ := f1_.symm; have f5_ := f3_.symm; clear f1_ f2_ f3_; subst f4_; subst f5_))
                        refine norm_ (a' := ?_) ?_ ?_
                        rotate_left
                        · simp only [putAll, Act.put, List.setIfInBounds_toArray, List.set_cons_zero, List.set_cons_succ]
                          rfl
                        refine one_ (i := 9) (N := some 39) #[true, true, true, true, true, true, true, true, true, true, true, true, true, true, false, true, false, false, false, false, false] rfl rfl (one_of HT_.out (by kernel_rfl)) (by decide) (fun K hK => ?_)
                        refine Kd.R_append_rows_step (Kd.int .i64) (w0 := w) w.heap.size (by rfl) (.tmp 36) (.tmp 38) 26 3 (.int .i64 0) 8 rfl Try.underlying26 info3 rfl (by decide) (by omega) (.slice Ao40 x182001_1.length co40) x182001_1 y194 _ _ _ (fun k_ => some k_ ≠ (.slice Ao41 x182002_1.length co41 : Value).ownBlock ∧ some k_ ≠ (.slice Ao54 y194.length co54 : Value).ownBlock ∧ some k_ ≠ (v201 : Value).ownBlock) (fun _ => False) rfl rfl ?aO ?aR (fun _ _ h => h) (fun _ h => h.elim) ?aF ?aB ?aS ?aL ?_
                        (case aR => repeat (first | exact (Kd.R_reads' HO196.out).2.2 | (with_reducible refine Kd.C_alloc ?_ _) | (with_reducible refine Kd.C_drewN ?_ _) | (with_reducible refine Kd.C_drew ?_)))
                        (case aB => exact (xs HB.out))
                        (case aF => exact (fun k_ hk => ⟨Kd.fresh' (Kd.R_lt (xr HO_182002.out)) k_ hk, Kd.fresh' (Kd.R_lt (xr HO196.out)) k_ hk, Kd.fresh' (Kd.R_lt (xr HO202.out)) k_ hk⟩))
                        (case aO => exact (by (with_reducible repeat (first | apply Kd.R_alloc | apply Kd.R_drewN | apply Kd.R_drew)); exact Kd.R_mono HO_182001.out (fun _ hk => ⟨hk.2.2, ⟨hk.1, hk.2.1⟩⟩)))
                        (case aS => exact (below_size (xs HB.out)))
                        (case aL => have := LMc23.out; omega)
                        intro v198 w53 ho hb hg hat
                        rw [← Ny197.out] at ho
                        have n0_ := Aside0.mk (Kd.R_after (ok := (fun k_ => some k_ ≠ (.slice Ao54 y194.length co54 : Value).ownBlock ∧ some k_ ≠ (v201 : Value).ownBlock)) (by (with_reducible repeat (first | apply Kd.R_alloc | apply Kd.R_drewN | apply Kd.R_drew)); exact Kd.R_mono HO_182002.out (fun _ hk => ⟨⟨hk.1, hk.2.1⟩, hk.2.2⟩)) hg hat)
                        have n1_ := Aside0.mk (blk_grown (g := gb175) (o := .cells #[.int .i64 a0_0, .int .i64 a0_1, .int .i64 a0_2, .int .i64 a0_3] 29 (0, 0)) (xb BK175.out) hg (Kd.R_ne HO_182001.out BK175.out (by decide)))
                        have n2_ := Aside0.mk (blk_grown (g := gb176) (o := .cells #[.int .i64 x177000_1, .bool x177001_1] 31 (0, 0)) (xb BK176.out) hg (Kd.R_ne HO_182001.out BK176.out (by decide)))
                        have n3_ := Aside0.mk (blk_grown (g := gb177) (o := .cells #[.slice none 0 0, .slice none 0 0, .slice none 0 0] 92 (0, 0)) (xb BK177.out) hg (Kd.R_ne HO_182001.out BK177.out (by decide)))
                        have n4_ := Aside0.mk (blk_grown (g := gb181) (o := .cells #[.slice Ao39 x182000_1.length co39, .slice Ao40 x182001_1.length co40, .slice Ao41 x182002_1.length co41] 92 (0, 0)) (xb BK181.out) hg (Kd.R_ne HO_182001.out BK181.out (by decide)))
                        have n5_ := Aside0.mk (blk_grown (g := gb187) (o := .cells #[.int .i64 t183, .bool t184] 31 (0, 0)) (xb BK187.out) hg (Kd.R_ne HO_182001.out BK187.out (by decide)))
                        have n6_ := Aside0.mk (Kd.R_over' (xr HO190.out) (Kd.R_typed (xr HO_182001.out)) (by decide) hg)
                        have n7_ := Aside0.mk (Kd.R_over' (xr HO193.out) (Kd.R_typed (xr HO_182001.out)) (by decide) hg)
                        have n8_ := Aside0.mk (Kd.R_after (ok := (fun k_ => some k_ ≠ (.slice Ao41 x182002_1.length co41 : Value).ownBlock ∧ some k_ ≠ (v201 : Value).ownBlock)) (by (with_reducible repeat (first | apply Kd.R_alloc | apply Kd.R_drewN | apply Kd.R_drew)); exact Kd.R_mono HO196.out (fun _ hk => ⟨⟨hk.2.2, hk.1⟩, hk.2.1⟩)) hg hat)
                        have n9_ := Aside0.mk (Kd.R_after (ok := (fun k_ => some k_ ≠ (.slice Ao41 x182002_1.length co41 : Value).ownBlock ∧ some k_ ≠ (.slice Ao54 y194.length co54 : Value).ownBlock)) (by (with_reducible repeat (first | apply Kd.R_alloc | apply Kd.R_drewN | apply Kd.R_drew)); exact Kd.R_mono HO202.out (fun _ hk => ⟨⟨hk.2.2, hk.1⟩, hk.2.1⟩)) hg hat)
                        have n10_ := Aside0.mk (hb)
                        have n11_ := Aside0.mk (ho)
                        clear HO_182002
                        clear BK175
                        clear BK176
                        clear BK177
                        clear BK181
                        clear BK187
                        clear HO190
                        clear HO193
                        clear HO196
                        clear HO202
                        clear HB
                        clear HO_182001
                        have HO_182002 := n0_
                        have BK175 := n1_
                        have BK176 := n2_
                        have BK177 := n3_
                        have BK181 := n4_
                        have BK187 := n5_
                        have HO190 := n6_
                        have HO193 := n7_
                        have HO196 := n8_
                        have HO202 := n9_
                        have HB := n10_
                        have HO199 := n11_
                        clear n0_ n1_ n2_ n3_ n4_ n5_ n6_ n7_ n8_ n9_ n10_ n11_
                        clear ho hb hg hat
                        refine hK.out _ _ ⟨(blk_cell BK181.out 0).trans rfl, (blk_cell BK181.out 1).trans rfl, (blk_cell BK181.out 2).trans rfl, (blk_cell BK187.out 0).trans rfl, (blk_cell BK187.out 1).trans rfl⟩ (fun hHeld => ?_)
                        clear hK K
                        refine norm_ (a' := ?_) ?_ ?_
                        rotate_left
                        · show Act.put _ (some 39) _ = _
                          simp only [Act.put, List.setIfInBounds_toArray, List.set_cons_zero, List.set_cons_succ, i64_w, i32_w]
                          rfl
                        exact norm_ (by first | (simp only [putAll, Act.put, List.setIfInBounds_toArray, List.set_cons_zero, List.set_cons_succ]; done) | (simp only [putAll, Act.put, List.setIfInBounds_toArray, List.set_cons_zero, List.set_cons_succ]; rfl)) (hJ3_4_8_9_13 (v189, v192, .slice Ao54 y194.length co54, v198, v201) _ ⟨hHeld, (xr HO190.out), (xr HO193.out), (by (with_reducible repeat (first | apply Kd.R_alloc | apply Kd.R_drewN | apply Kd.R_drew)); exact Kd.R_mono HO196.out (fun _ hk => ⟨hk.2, ⟨hk.1.2, hk.1.1⟩⟩)), (by (with_reducible repeat (first | apply Kd.R_alloc | apply Kd.R_drewN | apply Kd.R_drew)); exact Kd.R_mono HO199.out (fun _ hk => ⟨hk.2.1, ⟨hk.2.2, hk.1⟩⟩)), (by (with_reducible repeat (first | apply Kd.R_alloc | apply Kd.R_drewN | apply Kd.R_drew)); exact Kd.R_mono HO202.out (fun _ hk => ⟨hk.1.2, ⟨hk.2, hk.1.1⟩⟩)), (by (with_reducible repeat (first | apply Kd.R_alloc | apply Kd.R_drewN | apply Kd.R_drew)); exact Kd.R_mono HO_182002.out (fun _ hk => ⟨hk.1.1, ⟨hk.2, hk.1.2⟩⟩)), (xb BK175.out), (xb BK176.out), (xb BK177.out), (xb BK181.out), (xb BK187.out), (xs HB.out)⟩)
                    · skip
                      rintro ⟨v189, v192, v195, v198⟩ w52 ⟨hS_, h0_, h1_, h2_, h3_, h4_, h5_, h6_, h7_, h8_, h9_, h10_⟩
                      have n0_ : Aside0 (Kd.R k31 31 w52 w.heap.size (fun k_ => some k_ ≠ (v192 : Value).ownBlock ∧ k_ ≠ gb176 ∧ k_ ≠ gb187) v189 y188) := ⟨h0_⟩
                      have n1_ : Aside0 (Kd.R k31 31 w52 w.heap.size (fun k_ => some k_ ≠ (v189 : Value).ownBlock ∧ k_ ≠ gb176 ∧ k_ ≠ gb187) v192 y191) := ⟨h1_⟩
                      have n2_ : Aside0 (Kd.R (Kd.int .i64) 3 w52 w.heap.size (fun k_ => some k_ ≠ (v198 : Value).ownBlock ∧ some k_ ≠ (.slice Ao41 x182002_1.length co41 : Value).ownBlock) v195 y194) := ⟨h2_⟩
                      have n3_ : Aside0 (Kd.R (Kd.int .i64) 3 w52 w.heap.size (fun k_ => some k_ ≠ (v195 : Value).ownBlock ∧ some k_ ≠ (.slice Ao41 x182002_1.length co41 : Value).ownBlock) v198 y197) := ⟨h3_⟩
                      have n4_ : Aside0 (Kd.R (Kd.int .i64) 3 w52 w.heap.size (fun k_ => some k_ ≠ (v195 : Value).ownBlock ∧ some k_ ≠ (v198 : Value).ownBlock) (.slice Ao41 x182002_1.length co41) x182002_1) := ⟨h4_⟩
                      have n5_ : Aside0 (w52.heap[gb175]? = some (.cells #[.int .i64 a0_0, .int .i64 a0_1, .int .i64 a0_2, .int .i64 a0_3] 29 (0, 0))) := ⟨h5_⟩
                      have n6_ : Aside0 (w52.heap[gb176]? = some (.cells #[.int .i64 x177000_1, .bool x177001_1] 31 (0, 0))) := ⟨h6_⟩
                      have n7_ : Aside0 (w52.heap[gb177]? = some (.cells #[.slice none 0 0, .slice none 0 0, .slice none 0 0] 92 (0, 0))) := ⟨h7_⟩
                      have n8_ : Aside0 (w52.heap[gb181]? = some (.cells #[.slice Ao39 x182000_1.length co39, .slice Ao40 x182001_1.length co40, .slice Ao41 x182002_1.length co41] 92 (0, 0))) := ⟨h8_⟩
                      have n9_ : Aside0 (w52.heap[gb187]? = some (.cells #[.int .i64 t183, .bool t184] 31 (0, 0))) := ⟨h9_⟩
                      have n10_ : Aside0 (Below w.heap.size w w52) := ⟨h10_⟩
                      clear HO_182000
                      clear HO_182001
                      clear HO_182002
                      clear BK175
                      clear BK176
                      clear BK177
                      clear BK181
                      clear BK187
                      clear HB
                      clear h0_ h1_ h2_ h3_ h4_ h5_ h6_ h7_ h8_ h9_ h10_
                      have HO190 := n0_
                      have HO193 := n1_
                      have HO196 := n2_
                      have HO199 := n3_
                      have HO_182002 := n4_
                      have BK175 := n5_
                      have BK176 := n6_
                      have BK177 := n7_
                      have BK181 := n8_
                      have BK187 := n9_
                      have HB := n10_
                      clear n0_ n1_ n2_ n3_ n4_ n5_ n6_ n7_ n8_ n9_ n10_
                      have hHeld : w52.cell? ⟨gb181, 0, none⟩ = some (.slice Ao39 x182000_1.length co39) ∧ w52.cell? ⟨gb181, 1, none⟩ = some (.slice Ao40 x182001_1.length co40) ∧ w52.cell? ⟨gb181, 2, none⟩ = some (.slice Ao41 x182002_1.length co41) ∧ w52.cell? ⟨gb187, 0, none⟩ = some (.int .i64 t183) ∧ w52.cell? ⟨gb187, 1, none⟩ = some (.bool t184) := hS_
                      refine norm_ (a' := ?_) ?_ ?_
                      rotate_left
                      · simp only [putAll, Act.put, List.setIfInBounds_toArray, List.set_cons_zero, List.set_cons_succ]
                        rfl
                      refine one_ (i := 13) (N := some 43) #[true, true, true, true, true, true, true, true, true, true, true, true, true, true, false, true, false, false, false, false, false] rfl rfl (one_of HT_.out (by kernel_rfl)) (by decide) (fun K hK => ?_)
                      refine Kd.R_lit_step (Kd.int .i64) _ 3 ?hg (N := 43) ?hd (xs := ([t186] : List Int)) (inner := [.int .i64 t186]) (ok := fun _ => True) (okp := fun _ => True) ?hr ?hp (fun _ hk => hk) trivial (Below.refl _ _) (Nat.le_refl _) (by simp) ?_; (case hd => rfl); (case hg => rfl); (case hr => first | (go_simp; done) | (go_simp; rfl)); (case hp => exact (Reps.one (show Kd.M (Kd.int .i64) _ _ _ t186 [.int .i64 t186] from rfl) (Reps.none _ _)))
                      intro v201 w53 ho54 hb hg_ hnew_
                      clear hg_ hnew_
                      (first | rw [← Ny200.out] at ho54 | (simp only [Int.reduceToNat] at ho54; rw [← Ny200.out] at ho54))
                      have n0_ := Aside0.mk (Kd.R_elder' (xr HO_182002.out) (Kd.R_base ho54) hb)
                      have n1_ := Aside0.mk (Kd.R_below (xr HO190.out) hb)
                      have n2_ := Aside0.mk (Kd.R_below (xr HO193.out) hb)
                      have n3_ := Aside0.mk (Kd.R_elder' (xr HO196.out) (Kd.R_base ho54) hb)
                      have n4_ := Aside0.mk (Kd.R_elder' (xr HO199.out) (Kd.R_base ho54) hb)
                      have n5_ := Aside0.mk (Kd.R_lower (Kd.R_new' (Kd.R_new' (Kd.R_new' ho54 (Kd.R_lt (xr HO_182002.out))) (Kd.R_lt (xr HO196.out))) (Kd.R_lt (xr HO199.out))) (below_size (xs HB.out)))
                      have n6_ := Aside0.mk (blk_below (g := gb175) (o := .cells #[.int .i64 a0_0, .int .i64 a0_1, .int .i64 a0_2, .int .i64 a0_3] 29 (0, 0)) (xb BK175.out) hb)
                      have n7_ := Aside0.mk (blk_below (g := gb176) (o := .cells #[.int .i64 x177000_1, .bool x177001_1] 31 (0, 0)) (xb BK176.out) hb)
                      have n8_ := Aside0.mk (blk_below (g := gb177) (o := .cells #[.slice none 0 0, .slice none 0 0, .slice none 0 0] 92 (0, 0)) (xb BK177.out) hb)
                      have n9_ := Aside0.mk (blk_below (g := gb181) (o := .cells #[.slice Ao39 x182000_1.length co39, .slice Ao40 x182001_1.length co40, .slice Ao41 x182002_1.length co41] 92 (0, 0)) (xb BK181.out) hb)
                      have n10_ := Aside0.mk (blk_below (g := gb187) (o := .cells #[.int .i64 t183, .bool t184] 31 (0, 0)) (xb BK187.out) hb)
                      have n11_ := Aside0.mk (below_step (xs HB.out) hb)
                      clear HO_182002
                      clear HO190
                      clear HO193
                      clear HO196
                      clear HO199
                      clear BK175
                      clear BK176
                      clear BK177
                      clear BK181
                      clear BK187
                      clear HB
                      have HO_182002 := n0_
                      have HO190 := n1_
                      have HO193 := n2_
                      have HO196 := n3_
                      have HO199 := n4_
                      have HO202 := n5_
                      have BK175 := n6_
                      have BK176 := n7_
                      have BK177 := n8_
                      have BK181 := n9_
                      have BK187 := n10_
                      have HB := n11_
                      clear n0_ n1_ n2_ n3_ n4_ n5_ n6_ n7_ n8_ n9_ n10_ n11_
                      clear hb ho54
                      refine hK.out _ _ ⟨(blk_cell BK181.out 0).trans rfl, (blk_cell BK181.out 1).trans rfl, (blk_cell BK181.out 2).trans rfl, (blk_cell BK187.out 0).trans rfl, (blk_cell BK187.out 1).trans rfl⟩ (fun hHeld => ?_)
                      clear hK K
                      refine norm_ (a' := ?_) ?_ ?_
                      rotate_left
                      · show Act.put _ (some 43) _ = _
                        simp only [Act.put, List.setIfInBounds_toArray, List.set_cons_zero, List.set_cons_succ, i64_w, i32_w]
                        rfl
                      exact norm_ (by first | (simp only [putAll, Act.put, List.setIfInBounds_toArray, List.set_cons_zero, List.set_cons_succ]; done) | (simp only [putAll, Act.put, List.setIfInBounds_toArray, List.set_cons_zero, List.set_cons_succ]; rfl)) (hJ3_4_8_9_13 (v189, v192, v195, v198, v201) _ ⟨hHeld, (xr HO190.out), (xr HO193.out), (by (with_reducible repeat (first | apply Kd.R_alloc | apply Kd.R_drewN | apply Kd.R_drew)); exact Kd.R_mono HO196.out (fun _ hk => ⟨hk.1.1, ⟨hk.2, hk.1.2⟩⟩)), (by (with_reducible repeat (first | apply Kd.R_alloc | apply Kd.R_drewN | apply Kd.R_drew)); exact Kd.R_mono HO199.out (fun _ hk => ⟨hk.1.1, ⟨hk.2, hk.1.2⟩⟩)), (by (with_reducible repeat (first | apply Kd.R_alloc | apply Kd.R_drewN | apply Kd.R_drew)); exact Kd.R_mono HO202.out (fun _ hk => ⟨hk.1.2, ⟨hk.2, hk.1.1.2⟩⟩)), (by (with_reducible repeat (first | apply Kd.R_alloc | apply Kd.R_drewN | apply Kd.R_drew)); exact Kd.R_mono HO_182002.out (fun _ hk => ⟨hk.1.1, ⟨hk.1.2, hk.2⟩⟩)), (xb BK175.out), (xb BK176.out), (xb BK177.out), (xb BK181.out), (xb BK187.out), (xs HB.out)⟩)
                  rintro ⟨v189, v192, v195, v198, v201⟩ w54 ⟨hS_, h0_, h1_, h2_, h3_, h4_, h5_, h6_, h7_, h8_, h9_, h10_, h11_⟩
                  have n0_ : Aside0 (Kd.R k31 31 w54 w.heap.size (fun k_ => some k_ ≠ (v192 : Value).ownBlock ∧ k_ ≠ gb176 ∧ k_ ≠ gb187) v189 y188) := ⟨h0_⟩
                  have n1_ : Aside0 (Kd.R k31 31 w54 w.heap.size (fun k_ => some k_ ≠ (v189 : Value).ownBlock ∧ k_ ≠ gb176 ∧ k_ ≠ gb187) v192 y191) := ⟨h1_⟩
                  have n2_ : Aside0 (Kd.R (Kd.int .i64) 3 w54 w.heap.size (fun k_ => some k_ ≠ (v198 : Value).ownBlock ∧ some k_ ≠ (v201 : Value).ownBlock ∧ some k_ ≠ (.slice Ao41 x182002_1.length co41 : Value).ownBlock) v195 y194) := ⟨h2_⟩
                  have n3_ : Aside0 (Kd.R (Kd.int .i64) 3 w54 w.heap.size (fun k_ => some k_ ≠ (v195 : Value).ownBlock ∧ some k_ ≠ (v201 : Value).ownBlock ∧ some k_ ≠ (.slice Ao41 x182002_1.length co41 : Value).ownBlock) v198 y197) := ⟨h3_⟩
                  have n4_ : Aside0 (Kd.R (Kd.int .i64) 3 w54 w.heap.size (fun k_ => some k_ ≠ (v195 : Value).ownBlock ∧ some k_ ≠ (v198 : Value).ownBlock ∧ some k_ ≠ (.slice Ao41 x182002_1.length co41 : Value).ownBlock) v201 y200) := ⟨h4_⟩
                  have n5_ : Aside0 (Kd.R (Kd.int .i64) 3 w54 w.heap.size (fun k_ => some k_ ≠ (v195 : Value).ownBlock ∧ some k_ ≠ (v198 : Value).ownBlock ∧ some k_ ≠ (v201 : Value).ownBlock) (.slice Ao41 x182002_1.length co41) x182002_1) := ⟨h5_⟩
                  have n6_ : Aside0 (w54.heap[gb175]? = some (.cells #[.int .i64 a0_0, .int .i64 a0_1, .int .i64 a0_2, .int .i64 a0_3] 29 (0, 0))) := ⟨h6_⟩
                  have n7_ : Aside0 (w54.heap[gb176]? = some (.cells #[.int .i64 x177000_1, .bool x177001_1] 31 (0, 0))) := ⟨h7_⟩
                  have n8_ : Aside0 (w54.heap[gb177]? = some (.cells #[.slice none 0 0, .slice none 0 0, .slice none 0 0] 92 (0, 0))) := ⟨h8_⟩
                  have n9_ : Aside0 (w54.heap[gb181]? = some (.cells #[.slice Ao39 x182000_1.length co39, .slice Ao40 x182001_1.length co40, .slice Ao41 x182002_1.length co41] 92 (0, 0))) := ⟨h9_⟩
                  have n10_ : Aside0 (w54.heap[gb187]? = some (.cells #[.int .i64 t183, .bool t184] 31 (0, 0))) := ⟨h10_⟩
                  have n11_ : Aside0 (Below w.heap.size w w54) := ⟨h11_⟩
                  clear HO_182000
                  clear HO_182001
                  clear HO_182002
                  clear BK175
                  clear BK176
                  clear BK177
                  clear BK181
                  clear BK187
                  clear HB
                  clear h0_ h1_ h2_ h3_ h4_ h5_ h6_ h7_ h8_ h9_ h10_ h11_
                  have HO190 := n0_
                  have HO193 := n1_
                  have HO196 := n2_
                  have HO199 := n3_
                  have HO202 := n4_
                  have HO_182002 := n5_
                  have BK175 := n6_
                  have BK176 := n7_
                  have BK177 := n8_
                  have BK181 := n9_
                  have BK187 := n10_
                  have HB := n11_
                  clear n0_ n1_ n2_ n3_ n4_ n5_ n6_ n7_ n8_ n9_ n10_ n11_
                  have hHeld : w54.cell? ⟨gb181, 0, none⟩ = some (.slice Ao39 x182000_1.length co39) ∧ w54.cell? ⟨gb181, 1, none⟩ = some (.slice Ao40 x182001_1.length co40) ∧ w54.cell? ⟨gb181, 2, none⟩ = some (.slice Ao41 x182002_1.length co41) ∧ w54.cell? ⟨gb187, 0, none⟩ = some (.int .i64 t183) ∧ w54.cell? ⟨gb187, 1, none⟩ = some (.bool t184) := hS_
                  obtain ⟨Ao56, co56, eo56⟩ := Kd.R_slice HO202.out
                  (first | subst eo56 | (injection eo56 with f1_ f2_ f3_; have f4_ := f1_.symm; have f5_ := f3_.symm; clear f1_ f2_ f3_; subst f4_; subst f5_))
                  refine norm_ (a' := ?_) ?_ ?_
                  rotate_left
                  · simp only [putAll, Act.put, List.setIfInBounds_toArray, List.set_cons_zero, List.set_cons_succ]
                    rfl
                  refine one_ (i := 14) (N := some 44) #[true, true, true, true, true, true, true, true, true, true, true, true, true, true, true, true, false, false, false, false, false] rfl rfl (one_of HT_.out (by kernel_rfl)) (by decide) (fun K hK => ?_)
                  refine Kd.R_append_rows_step (Kd.int .i64) (w0 := w) w.heap.size (by rfl) (.tmp 41) (.tmp 43) 26 3 (.int .i64 0) 8 rfl Try.underlying26 info3 rfl (by decide) (by omega) (.slice Ao41 x182002_1.length co41) x182002_1 y200 _ _ _ (fun k_ => some k_ ≠ (v195 : Value).ownBlock ∧ some k_ ≠ (v198 : Value).ownBlock ∧ some k_ ≠ (.slice Ao56 y200.length co56 : Value).ownBlock) (fun _ => False) rfl rfl ?aO ?aR (fun _ _ h => h) (fun _ h => h.elim) ?aF ?aB ?aS ?aL ?_
                  (case aR => repeat (first | exact (Kd.R_reads' HO202.out).2.2 | (with_reducible refine Kd.C_alloc ?_ _) | (with_reducible refine Kd.C_drewN ?_ _) | (with_reducible refine Kd.C_drew ?_)))
                  (case aB => exact (xs HB.out))
                  (case aF => exact (fun k_ hk => ⟨Kd.fresh' (Kd.R_lt (xr HO196.out)) k_ hk, Kd.fresh' (Kd.R_lt (xr HO199.out)) k_ hk, Kd.fresh' (Kd.R_lt (xr HO202.out)) k_ hk⟩))
                  (case aO => exact (xr HO_182002.out))
                  (case aS => exact (below_size (xs HB.out)))
                  (case aL => have := LMc24.out; omega)
                  intro v204 w55 ho hb hg hat
                  rw [← Ny203.out] at ho
                  have n0_ := Aside0.mk (blk_grown (g := gb175) (o := .cells #[.int .i64 a0_0, .int .i64 a0_1, .int .i64 a0_2, .int .i64 a0_3] 29 (0, 0)) (xb BK175.out) hg (Kd.R_ne HO_182002.out BK175.out (by decide)))
                  have n1_ := Aside0.mk (blk_grown (g := gb176) (o := .cells #[.int .i64 x177000_1, .bool x177001_1] 31 (0, 0)) (xb BK176.out) hg (Kd.R_ne HO_182002.out BK176.out (by decide)))
                  have n2_ := Aside0.mk (blk_grown (g := gb177) (o := .cells #[.slice none 0 0, .slice none 0 0, .slice none 0 0] 92 (0, 0)) (xb BK177.out) hg (Kd.R_ne HO_182002.out BK177.out (by decide)))
                  have n3_ := Aside0.mk (blk_grown (g := gb181) (o := .cells #[.slice Ao39 x182000_1.length co39, .slice Ao40 x182001_1.length co40, .slice Ao41 x182002_1.length co41] 92 (0, 0)) (xb BK181.out) hg (Kd.R_ne HO_182002.out BK181.out (by decide)))
                  have n4_ := Aside0.mk (blk_grown (g := gb187) (o := .cells #[.int .i64 t183, .bool t184] 31 (0, 0)) (xb BK187.out) hg (Kd.R_ne HO_182002.out BK187.out (by decide)))
                  have n5_ := Aside0.mk (Kd.R_over' (xr HO190.out) (Kd.R_typed (xr HO_182002.out)) (by decide) hg)
                  have n6_ := Aside0.mk (Kd.R_over' (xr HO193.out) (Kd.R_typed (xr HO_182002.out)) (by decide) hg)
                  have n7_ := Aside0.mk (Kd.R_after (ok := (fun k_ => some k_ ≠ (v198 : Value).ownBlock ∧ some k_ ≠ (.slice Ao56 y200.length co56 : Value).ownBlock)) (by (with_reducible repeat (first | apply Kd.R_alloc | apply Kd.R_drewN | apply Kd.R_drew)); exact Kd.R_mono HO196.out (fun _ hk => ⟨⟨hk.1, hk.2.1⟩, hk.2.2⟩)) hg hat)
                  have n8_ := Aside0.mk (Kd.R_after (ok := (fun k_ => some k_ ≠ (v195 : Value).ownBlock ∧ some k_ ≠ (.slice Ao56 y200.length co56 : Value).ownBlock)) (by (with_reducible repeat (first | apply Kd.R_alloc | apply Kd.R_drewN | apply Kd.R_drew)); exact Kd.R_mono HO199.out (fun _ hk => ⟨⟨hk.1, hk.2.1⟩, hk.2.2⟩)) hg hat)
                  have n9_ := Aside0.mk (Kd.R_after (ok := (fun k_ => some k_ ≠ (v195 : Value).ownBlock ∧ some k_ ≠ (v198 : Value).ownBlock)) (by (with_reducible repeat (first | apply Kd.R_alloc | apply Kd.R_drewN | apply Kd.R_drew)); exact Kd.R_mono HO202.out (fun _ hk => ⟨⟨hk.1, hk.2.1⟩, hk.2.2⟩)) hg hat)
                  have n10_ := Aside0.mk (hb)
                  have n11_ := Aside0.mk (ho)
                  clear BK175
                  clear BK176
                  clear BK177
                  clear BK181
                  clear BK187
                  clear HO190
                  clear HO193
                  clear HO196
                  clear HO199
                  clear HO202
                  clear HB
                  clear HO_182002
                  have BK175 := n0_
                  have BK176 := n1_
                  have BK177 := n2_
                  have BK181 := n3_
                  have BK187 := n4_
                  have HO190 := n5_
                  have HO193 := n6_
                  have HO196 := n7_
                  have HO199 := n8_
                  have HO202 := n9_
                  have HB := n10_
                  have HO205 := n11_
                  clear n0_ n1_ n2_ n3_ n4_ n5_ n6_ n7_ n8_ n9_ n10_ n11_
                  clear ho hb hg hat
                  obtain ⟨Ao57, co57, eo57⟩ := Kd.R_slice HO193.out
                  (first | subst eo57 | (injection eo57 with f1_ f2_ f3_; have f4_ := f1_.symm; have f5_ := f3_.symm; clear f1_ f2_ f3_; subst f4_; subst f5_))
                  obtain ⟨Ao59, co59, eo59⟩ := Kd.R_slice HO199.out
                  (first | subst eo59 | (injection eo59 with f1_ f2_ f3_; have f4_ := f1_.symm; have f5_ := f3_.symm; clear f1_ f2_ f3_; subst f4_; subst f5_))
                  obtain ⟨Ao61, co61, eo61⟩ := Kd.R_slice HO205.out
                  (first | subst eo61 | (injection eo61 with f1_ f2_ f3_; have f4_ := f1_.symm; have f5_ := f3_.symm; clear f1_ f2_ f3_; subst f4_; subst f5_))
                  refine hK.out _ _ ⟨(blk_cell BK181.out 0).trans rfl, (blk_cell BK181.out 1).trans rfl, (blk_cell BK181.out 2).trans rfl, (blk_cell BK187.out 0).trans rfl, (blk_cell BK187.out 1).trans rfl⟩ (fun hHeld => ?_)
                  clear hK K
                  refine norm_ (a' := ?_) ?_ ?_
                  rotate_left
                  · show Act.put _ (some 44) _ = _
                    simp only [Act.put, List.setIfInBounds_toArray, List.set_cons_zero, List.set_cons_succ, i64_w, i32_w]
                    rfl
                  refine last_ (i := 16) (N := none) #[true, true, true, true, true, true, true, true, true, true, true, true, true, true, true, true, true, false, false, false, false] rfl rfl (one_of HT_.out (by kernel_rfl)) (by decide) (fun K hK => ?_)
                  have hs58 : w55.cell? ⟨gb181, 0, none⟩ = some (.slice Ao39 x182000_1.length co39) := (blk_cell BK181.out 0).trans rfl
                  have hfs58 := blk_frozen BK181.out 0
                  have hns58_0 := NB175_181.out
                  have hns58_1 := NB176_181.out
                  have hns58_2 := NB177_181.out
                  have hns58_4 := NB187_181.out
                  have hms58_0 := NB181_175.out
                  have hms58_1 := NB181_176.out
                  have hms58_2 := NB181_177.out
                  have hms58_4 := NB181_187.out
                  refine skip_ (w1 := ?_) (by rfl) rfl ?_ ?_
                  rotate_left
                  · go_simp
                    rfl
                  refine hK.out _ _ ?_
                  clear hK K
                  refine pure_ (i := 17) (N := some 46) (v := ?_) (a' := ?_) #[true, true, true, true, true, true, true, true, true, true, true, true, true, true, true, true, true, true, false, false, false] rfl rfl (any_of HT_.out (by kernel_rfl)) (fun _ _ _ h => h) (Or.inl ⟨by rfl, ?_⟩) ?_ ?_
                  rotate_left
                  · intro w'
                    go_simp
                    with_reducible rfl
                  rotate_left
                  · simp only [Act.put, List.setIfInBounds_toArray, List.set_cons_zero, List.set_cons_succ, i64_w, i32_w]
                    rfl
                  refine last_ (i := 18) (N := none) #[true, true, true, true, true, true, true, true, true, true, true, true, true, true, true, true, true, true, true, false, false] rfl rfl (one_of HT_.out (by kernel_rfl)) (by decide) (fun K hK => ?_)
                  have hs60 : w55.cell? ⟨gb181, 1, none⟩ = some (.slice Ao40 x182001_1.length co40) := (blk_cell BK181.out 1).trans rfl
                  have hfs60 := blk_frozen BK181.out 1
                  have hns60_0 := NB175_181.out
                  have hns60_1 := NB176_181.out
                  have hns60_2 := NB177_181.out
                  have hns60_4 := NB187_181.out
                  have hms60_0 := NB181_175.out
                  have hms60_1 := NB181_176.out
                  have hms60_2 := NB181_177.out
                  have hms60_4 := NB181_187.out
                  refine skip_ (w1 := ?_) (by rfl) rfl ?_ ?_
                  rotate_left
                  · go_simp
                    rfl
                  refine hK.out _ _ ?_
                  clear hK K
                  refine pure_ (i := 19) (N := some 47) (v := ?_) (a' := ?_) #[true, true, true, true, true, true, true, true, true, true, true, true, true, true, true, true, true, true, true, true, false] rfl rfl (any_of HT_.out (by kernel_rfl)) (fun _ _ _ h => h) (Or.inl ⟨by rfl, ?_⟩) ?_ ?_
                  rotate_left
                  · intro w'
                    go_simp
                    with_reducible rfl
                  rotate_left
                  · simp only [Act.put, List.setIfInBounds_toArray, List.set_cons_zero, List.set_cons_succ, i64_w, i32_w]
                    rfl
                  refine last_ (i := 20) (N := none) #[true, true, true, true, true, true, true, true, true, true, true, true, true, true, true, true, true, true, true, true, true] rfl rfl (one_of HT_.out (by kernel_rfl)) (by decide) (fun K hK => ?_)
                  have hs62 : w55.cell? ⟨gb181, 2, none⟩ = some (.slice Ao41 x182002_1.length co41) := (blk_cell BK181.out 2).trans rfl
                  have hfs62 := blk_frozen BK181.out 2
                  have hns62_0 := NB175_181.out
                  have hns62_1 := NB176_181.out
                  have hns62_2 := NB177_181.out
                  have hns62_4 := NB187_181.out
                  have hms62_0 := NB181_175.out
                  have hms62_1 := NB181_176.out
                  have hms62_2 := NB181_177.out
                  have hms62_4 := NB181_187.out
                  refine skip_ (w1 := ?_) (by rfl) rfl ?_ ?_
                  rotate_left
                  · go_simp
                    rfl
                  refine hK.out _ _ ?_
                  clear hK K
                  refine done_ (done_of HT_.out (by kernel_rfl)) ?_
                  have hcz63_0 : w55.cell? ⟨gb187, 0, none⟩ = some (.int .i64 t183) := (blk_cell BK187.out 0).trans rfl
                  have hcz63_1 : w55.cell? ⟨gb187, 1, none⟩ = some (.bool t184) := (blk_cell BK187.out 1).trans rfl
                  have hfz63_0 := blk_frozen BK187.out 0
                  have hfz63_1 := blk_frozen BK187.out 1
                  have hcz64_0 : w55.cell? ⟨gb176, 0, none⟩ = some (.int .i64 x177000_1) := (blk_cell BK176.out 0).trans rfl
                  have hcz64_1 : w55.cell? ⟨gb176, 1, none⟩ = some (.bool x177001_1) := (blk_cell BK176.out 1).trans rfl
                  have hfz64_0 := blk_frozen BK176.out 0
                  have hfz64_1 := blk_frozen BK176.out 1
                  try go_wp2
                  go_roundg k1
                  case measure => have := HK1.out; omega
                  case rel => exact ⟨(wrap64 (x18_1 + 1)), (t183), (t184), (y191), (y197), (y203), (.slice Ao57 y191.length co57), (.slice Ao59 y197.length co59), (.slice Ao61 y203.length co61), (by first | rfl | (simp; done) | (simp [*]; done)), H', ⟨by have := HK1.out; omega⟩, ⟨by (with_reducible repeat (first | apply Kd.R_alloc | apply Kd.R_drewN | apply Kd.R_drew)); exact Kd.R_mono (Kd.R_far (p := ⟨gb176, 1, none⟩) (Kd.R_far (p := ⟨gb176, 0, none⟩) (Kd.R_far (p := ⟨gb181, 2, none⟩) (Kd.R_far (p := ⟨gb181, 1, none⟩) (Kd.R_far (p := ⟨gb181, 0, none⟩) (Kd.R_mono (Kd.R_types HO193.out BK181.out (by decide)) (fun k_ hk => (⟨hk, hk.1.2.1⟩ : _ ∧ k_ ≠ gb176))) (fun _ hk => hk.1.2) (.slice Ao57 y191.length co57)) (fun _ hk => hk.1.2) (.slice Ao59 y197.length co59)) (fun _ hk => hk.1.2) (.slice Ao61 y203.length co61)) (fun _ hk => hk.2) (.int .i64 t183)) (fun _ hk => hk.2) (.bool t184)) (fun _ hk => hk.1.1.2.1)⟩, ⟨by (with_reducible repeat (first | apply Kd.R_alloc | apply Kd.R_drewN | apply Kd.R_drew)); exact Kd.R_mono (Kd.R_far (p := ⟨gb176, 1, none⟩) (Kd.R_far (p := ⟨gb176, 0, none⟩) (Kd.R_far (p := ⟨gb181, 2, none⟩) (Kd.R_far (p := ⟨gb181, 1, none⟩) (Kd.R_far (p := ⟨gb181, 0, none⟩) (Kd.R_types (Kd.R_types HO199.out BK181.out (by decide)) BK176.out (by decide)) (fun _ hk => hk.1.2) (.slice Ao57 y191.length co57)) (fun _ hk => hk.1.2) (.slice Ao59 y197.length co59)) (fun _ hk => hk.1.2) (.slice Ao61 y203.length co61)) (fun _ hk => hk.2) (.int .i64 t183)) (fun _ hk => hk.2) (.bool t184)) (fun _ hk => hk.1.1.2)⟩, ⟨by (with_reducible repeat (first | apply Kd.R_alloc | apply Kd.R_drewN | apply Kd.R_drew)); exact Kd.R_mono (Kd.R_far (p := ⟨gb176, 1, none⟩) (Kd.R_far (p := ⟨gb176, 0, none⟩) (Kd.R_far (p := ⟨gb181, 2, none⟩) (Kd.R_far (p := ⟨gb181, 1, none⟩) (Kd.R_far (p := ⟨gb181, 0, none⟩) (Kd.R_types (Kd.R_types HO205.out BK181.out (by decide)) BK176.out (by decide)) (fun _ hk => hk.1.2) (.slice Ao57 y191.length co57)) (fun _ hk => hk.1.2) (.slice Ao59 y197.length co59)) (fun _ hk => hk.1.2) (.slice Ao61 y203.length co61)) (fun _ hk => hk.2) (.int .i64 t183)) (fun _ hk => hk.2) (.bool t184)) (fun _ hk => hk.1.1.2.1)⟩, ⟨by (with_reducible repeat (first | refine blk_drewN ?_ _ | refine blk_drew ?_ | refine blk_alloc ?_ _)); refine blk_far ?_ NB175_176.out _; (with_reducible repeat (first | refine blk_drewN ?_ _ | refine blk_drew ?_ | refine blk_alloc ?_ _)); refine blk_far ?_ NB175_176.out _; (with_reducible repeat (first | refine blk_drewN ?_ _ | refine blk_drew ?_ | refine blk_alloc ?_ _)); refine blk_far ?_ NB175_181.out _; (with_reducible repeat (first | refine blk_drewN ?_ _ | refine blk_drew ?_ | refine blk_alloc ?_ _)); refine blk_far ?_ NB175_181.out _; (with_reducible repeat (first | refine blk_drewN ?_ _ | refine blk_drew ?_ | refine blk_alloc ?_ _)); refine blk_far ?_ NB175_181.out _; (with_reducible repeat (first | refine blk_drewN ?_ _ | refine blk_drew ?_ | refine blk_alloc ?_ _)); exact BK175.out⟩, ⟨by (with_reducible repeat (first | refine blk_drewN ?_ _ | refine blk_drew ?_ | refine blk_alloc ?_ _)); refine blk_put (cs := #[.int .i64 t183, .bool x177001_1]) ?_ 1 _ rfl; (with_reducible repeat (first | refine blk_drewN ?_ _ | refine blk_drew ?_ | refine blk_alloc ?_ _)); refine blk_put (cs := #[.int .i64 x177000_1, .bool x177001_1]) ?_ 0 _ rfl; (with_reducible repeat (first | refine blk_drewN ?_ _ | refine blk_drew ?_ | refine blk_alloc ?_ _)); refine blk_far ?_ NB176_181.out _; (with_reducible repeat (first | refine blk_drewN ?_ _ | refine blk_drew ?_ | refine blk_alloc ?_ _)); refine blk_far ?_ NB176_181.out _; (with_reducible repeat (first | refine blk_drewN ?_ _ | refine blk_drew ?_ | refine blk_alloc ?_ _)); refine blk_far ?_ NB176_181.out _; (with_reducible repeat (first | refine blk_drewN ?_ _ | refine blk_drew ?_ | refine blk_alloc ?_ _)); exact BK176.out⟩, ⟨by (with_reducible repeat (first | refine blk_drewN ?_ _ | refine blk_drew ?_ | refine blk_alloc ?_ _)); refine blk_far ?_ NB177_176.out _; (with_reducible repeat (first | refine blk_drewN ?_ _ | refine blk_drew ?_ | refine blk_alloc ?_ _)); refine blk_far ?_ NB177_176.out _; (with_reducible repeat (first | refine blk_drewN ?_ _ | refine blk_drew ?_ | refine blk_alloc ?_ _)); refine blk_far ?_ NB177_181.out _; (with_reducible repeat (first | refine blk_drewN ?_ _ | refine blk_drew ?_ | refine blk_alloc ?_ _)); refine blk_far ?_ NB177_181.out _; (with_reducible repeat (first | refine blk_drewN ?_ _ | refine blk_drew ?_ | refine blk_alloc ?_ _)); refine blk_far ?_ NB177_181.out _; (with_reducible repeat (first | refine blk_drewN ?_ _ | refine blk_drew ?_ | refine blk_alloc ?_ _)); exact BK177.out⟩, ⟨by (with_reducible repeat (first | refine blk_drewN ?_ _ | refine blk_drew ?_ | refine blk_alloc ?_ _)); refine blk_far ?_ NB181_176.out _; (with_reducible repeat (first | refine blk_drewN ?_ _ | refine blk_drew ?_ | refine blk_alloc ?_ _)); refine blk_far ?_ NB181_176.out _; (with_reducible repeat (first | refine blk_drewN ?_ _ | refine blk_drew ?_ | refine blk_alloc ?_ _)); refine blk_put (cs := #[.slice Ao57 y191.length co57, .slice Ao59 y197.length co59, .slice Ao41 x182002_1.length co41]) ?_ 2 _ rfl; (with_reducible repeat (first | refine blk_drewN ?_ _ | refine blk_drew ?_ | refine blk_alloc ?_ _)); refine blk_put (cs := #[.slice Ao57 y191.length co57, .slice Ao40 x182001_1.length co40, .slice Ao41 x182002_1.length co41]) ?_ 1 _ rfl; (with_reducible repeat (first | refine blk_drewN ?_ _ | refine blk_drew ?_ | refine blk_alloc ?_ _)); refine blk_put (cs := #[.slice Ao39 x182000_1.length co39, .slice Ao40 x182001_1.length co40, .slice Ao41 x182002_1.length co41]) ?_ 0 _ rfl; (with_reducible repeat (first | refine blk_drewN ?_ _ | refine blk_drew ?_ | refine blk_alloc ?_ _)); exact BK181.out⟩, ⟨xs HB.out⟩⟩
                · rw [if_neg c24] at H
                  exact absurd H (by simp)
              · rw [if_neg c23] at H
                exact absurd H (by simp)
            · rw [if_neg c22] at H
              exact absurd H (by simp)
          · rw [if_neg c20] at H
            exact absurd H (by simp)
        · rw [if_neg c19] at H
          exact absurd H (by simp)
      · rw [if_neg c18] at H
        have c18b0 : decide (x18_1 < (l2.length : Int)) = false := decide_eq_false c18
        clear c18
        simp only [Option.some.injEq, Prod.mk.injEq] at H
        obtain ⟨rfl, rfl, rfl⟩ := H
        have hnb65 := NB181_175.out
        have hnc65 := NB175_181.out
        have hnb66 := NB181_176.out
        have hnc66 := NB176_181.out
        have hnb67 := NB181_177.out
        have hnc67 := NB177_181.out
        have hcz68_0 : wr.cell? ⟨gb181, 0, none⟩ = some (u182000) := (blk_cell BK181.out 0).trans rfl
        have hcz68_1 : wr.cell? ⟨gb181, 1, none⟩ = some (u182001) := (blk_cell BK181.out 1).trans rfl
        have hcz68_2 : wr.cell? ⟨gb181, 2, none⟩ = some (u182002) := (blk_cell BK181.out 2).trans rfl
        have hfz68_0 := blk_frozen BK181.out 0
        have hfz68_1 := blk_frozen BK181.out 1
        have hfz68_2 := blk_frozen BK181.out 2
        obtain ⟨Ao69, co69, eo69⟩ := Kd.R_slice HO_182000.out
        subst eo69
        have hnb70 := NB177_175.out
        have hnc70 := NB175_177.out
        have hnb71 := NB177_176.out
        have hnc71 := NB176_177.out
        have hcz72_0 : wr.cell? ⟨gb177, 0, none⟩ = some (.slice none 0 0) := (blk_cell BK177.out 0).trans rfl
        have hcz72_1 : wr.cell? ⟨gb177, 1, none⟩ = some (.slice none 0 0) := (blk_cell BK177.out 1).trans rfl
        have hcz72_2 : wr.cell? ⟨gb177, 2, none⟩ = some (.slice none 0 0) := (blk_cell BK177.out 2).trans rfl
        have hfz72_0 := blk_frozen BK177.out 0
        have hfz72_1 := blk_frozen BK177.out 1
        have hfz72_2 := blk_frozen BK177.out 2
        obtain ⟨Ao73, co73, eo73⟩ := Kd.R_slice HO_182001.out
        subst eo73
        obtain ⟨Ao74, co74, eo74⟩ := Kd.R_slice HO_182002.out
        subst eo74
        go_wp2
        refine bodyPost_ret (results_cell_row rfl _ _ gb177 92 #[.slice Ao69 x182000_1.length co69, .slice Ao73 x182001_1.length co73, .slice Ao74 x182002_1.length co74] (0, 0) _ rfl (by (with_reducible repeat (first | refine blk_drewN ?_ _ | refine blk_drew ?_ | refine blk_alloc ?_ _)); refine blk_put (cs := #[.slice Ao69 x182000_1.length co69, .slice Ao73 x182001_1.length co73, .slice none 0 0]) ?_ 2 _ rfl; (with_reducible repeat (first | refine blk_drewN ?_ _ | refine blk_drew ?_ | refine blk_alloc ?_ _)); refine blk_put (cs := #[.slice Ao69 x182000_1.length co69, .slice none 0 0, .slice none 0 0]) ?_ 1 _ rfl; (with_reducible repeat (first | refine blk_drewN ?_ _ | refine blk_drew ?_ | refine blk_alloc ?_ _)); refine blk_put (cs := #[.slice none 0 0, .slice none 0 0, .slice none 0 0]) ?_ 0 _ rfl; (with_reducible repeat (first | refine blk_drewN ?_ _ | refine blk_drew ?_ | refine blk_alloc ?_ _)); exact BK177.out) Try.underlying92 rfl (by kernel_rfl)) rfl ?_
        exact ⟨_, _, _, by first | rfl | (simp [errW_none, errW_some] <;> rfl) | (simp [*, errW_none, errW_some] <;> rfl), by (with_reducible repeat (first | apply Kd.R_alloc | apply Kd.R_drewN | apply Kd.R_drew)); exact Kd.R_mono (Kd.R_far (p := ⟨gb177, 2, none⟩) (Kd.R_far (p := ⟨gb177, 1, none⟩) (Kd.R_far (p := ⟨gb177, 0, none⟩) (Kd.R_types HO_182000.out BK177.out (by decide)) (fun _ hk => hk.2) (.slice Ao69 x182000_1.length co69)) (fun _ hk => hk.2) (.slice Ao73 x182001_1.length co73)) (fun _ hk => hk.2) (.slice Ao74 x182002_1.length co74)) (fun _ hk => trivial), by (with_reducible repeat (first | apply Kd.R_alloc | apply Kd.R_drewN | apply Kd.R_drew)); exact Kd.R_mono (Kd.R_far (p := ⟨gb177, 2, none⟩) (Kd.R_far (p := ⟨gb177, 1, none⟩) (Kd.R_far (p := ⟨gb177, 0, none⟩) (Kd.R_types HO_182001.out BK177.out (by decide)) (fun _ hk => hk.2) (.slice Ao69 x182000_1.length co69)) (fun _ hk => hk.2) (.slice Ao73 x182001_1.length co73)) (fun _ hk => hk.2) (.slice Ao74 x182002_1.length co74)) (fun _ hk => hk.1), by (with_reducible repeat (first | apply Kd.R_alloc | apply Kd.R_drewN | apply Kd.R_drew)); exact Kd.R_mono (Kd.R_far (p := ⟨gb177, 2, none⟩) (Kd.R_far (p := ⟨gb177, 1, none⟩) (Kd.R_far (p := ⟨gb177, 0, none⟩) (Kd.R_types HO_182002.out BK177.out (by decide)) (fun _ hk => hk.2) (.slice Ao69 x182000_1.length co69)) (fun _ hk => hk.2) (.slice Ao73 x182001_1.length co73)) (fun _ hk => hk.2) (.slice Ao74 x182002_1.length co74)) (fun _ hk => hk.1), by repeat (first | (with_reducible first | exact HB.out | apply below_alloc | apply pw_below_drewN | apply below_drew1 | refine below_set ?_ GE175.out | refine below_set ?_ GE176.out | refine below_set ?_ GE177.out | refine below_set ?_ GE181.out) | exact HB.out)⟩

end Go.Proofs.Ytminippcikenfaa.PFnExactSpiltOf

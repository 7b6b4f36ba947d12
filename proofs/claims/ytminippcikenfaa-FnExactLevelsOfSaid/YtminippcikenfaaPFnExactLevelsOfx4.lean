/- Lean functions of the Go functions that the law FnExactLevelsOf reaches, and the proofs that the calls come to what they say (made by program). -/
import Derived.Test.YtminippcikenfaaAb
import Derived.Test.YtminippcikenfaaPFnExactLevelsOfx0
import Derived.Test.YtminippcikenfaaPFnExactLevelsOfx3
namespace Go.Proofs.Ytminippcikenfaa.PFnExactLevelsOf
open Go.RowKit Go.Proofs.YtminippcikenfaaW.PrintWords Go.Proofs.YtminippcikenfaaW.PrintLast Go.Proofs.YtminippcikenfaaW.PrintMore Go.Proofs.Ytminippcikenfaa.Ab
attribute [local go_sem] max2_int min2_int max_two min_two max_three min_three max_four min_four   -- for this text's walks alone
set_option linter.unusedVariables false
set_option linter.unusedSimpArgs false

/-! ### impl_Siphon_run: function 55 -/
def impl_Siphon_run.l0 : Nat → List Int → Int → Int → Int → Int → Int → Int → Int → Bool → List (S31) → List Int → List Int → Option ((List (S31)) × List Int × List Int)
  | 0, _, _, _, _, _, _, _, _, _, _, _, _ => none
  | k + 1, x16, x17, x18, x178000, x178001, x178002, x178003, x179000, x179001, x184000, x184001, x184002 => if x18 < x17 then (if 0 ≤ x18 then (if x18 < (x16.length : Int) then ((impl_Siphon_tick.f x178000 x178001 x178002 x178003 x179000 x179001 (rd x16 x18)).bind fun bt185 => ((some (([(⟨bt185.1, bt185.2.1⟩ : S31)] : List (S31)) : List (S31))).bind fun y190 => (if x184000.length + y190.length < 8796093022208 then ((some (([bt185.2.2.1] : List Int) : List Int)).bind fun y196 => (if x184001.length + y196.length < 17592186044416 then ((some (([bt185.2.2.2] : List Int) : List Int)).bind fun y202 => (if x184002.length + y202.length < 17592186044416 then (impl_Siphon_run.l0 k x16 x17 (wrap64 (x18 + 1)) x178000 x178001 x178002 x178003 bt185.1 bt185.2.1 (x184000 ++ y190) (x184001 ++ y196) (x184002 ++ y202)) else (none))) else (none))) else (none)))) else (none)) else (none)) else (some (x184000, x184001, x184002))
def impl_Siphon_run.f (k : Nat) (a0_0 : Int) (a0_1 : Int) (a0_2 : Int) (a0_3 : Int) (a1_0 : Int) (a1_1 : Bool) (l2 : List Int) : Option ((List (S31)) × List Int × List Int) := impl_Siphon_run.l0 k l2 (l2.length : Int) 0 a0_0 a0_1 a0_2 a0_3 a1_0 a1_1 (([(⟨a1_0, a1_1⟩ : S31)] : List (S31))) ([] : List Int) ([] : List Int)
theorem impl_Siphon_run.mono_l : ∀ k, (∀ y0 y1 y2 y3 y4 y5 y6 y7 y8 y9 y10 y11, LeO (impl_Siphon_run.l0 k y0 y1 y2 y3 y4 y5 y6 y7 y8 y9 y10 y11) (impl_Siphon_run.l0 (k + 1) y0 y1 y2 y3 y4 y5 y6 y7 y8 y9 y10 y11))
  | 0 => fun _ _ _ _ _ _ _ _ _ _ _ _ r h => by simp [impl_Siphon_run.l0] at h
  | k + 1 => by
    have ih0 := impl_Siphon_run.mono_l k
    · intro y0 y1 y2 y3 y4 y5 y6 y7 y8 y9 y10 y11
      unfold impl_Siphon_run.l0
      repeat' first
      | (with_reducible exact ih0 _ _ _ _ _ _ _ _ _ _ _ _)
      | (with_reducible exact LeO.refl _)
      | (with_reducible exact LeO.none _)
      | (with_reducible refine LeO.ite ?_ ?_)
      | (with_reducible refine LeO.bind ?_ (fun _ => ?_))
      | exact ih0 _ _ _ _ _ _ _ _ _ _ _ _
      | exact LeO.none _
      | refine LeO.ite ?_ ?_
      | refine LeO.bind ?_ (fun _ => ?_)
theorem impl_Siphon_run.mono : ∀ a0 a1 a2 a3 a4 a5 a6 k, LeO (impl_Siphon_run.f k a0 a1 a2 a3 a4 a5 a6) (impl_Siphon_run.f (k + 1) a0 a1 a2 a3 a4 a5 a6) := by
  intro a0 a1 a2 a3 a4 a5 a6 k
  have ih0 := impl_Siphon_run.mono_l k
  unfold impl_Siphon_run.f
  repeat' first
      | (with_reducible exact ih0 _ _ _ _ _ _ _ _ _ _ _ _)
      | (with_reducible exact LeO.refl _)
      | (with_reducible exact LeO.none _)
      | (with_reducible refine LeO.ite ?_ ?_)
      | (with_reducible refine LeO.bind ?_ (fun _ => ?_))
      | exact ih0 _ _ _ _ _ _ _ _ _ _ _ _
      | exact LeO.none _
      | refine LeO.ite ?_ ?_
      | refine LeO.bind ?_ (fun _ => ?_)
def impl_Siphon_run.T6 : Bool × List (List Nat × List Nat) := (true, [([], []), ([0], [0]), ([], []), ([2], [2]), ([1, 3], [1, 3]), ([], []), ([5], [5]), ([], []), ([7], [7]), ([6, 8, 4], [6, 8]), ([], []), ([10], [10]), ([], []), ([12], [12]), ([11, 13, 9], [11, 13]), ([0, 1, 2, 3, 4, 5, 6, 10, 11], []), ([15, 4, 14, 0, 1, 2, 3, 4, 5, 6, 10, 11], [4, 15]), ([0, 1, 2, 3, 4, 5, 6, 7, 8, 9, 10, 11, 15, 16], []), ([17, 9, 16, 0, 1, 2, 3, 4, 5, 6, 7, 8, 9, 10, 11, 15, 16], [9, 17]), ([0, 1, 2, 3, 4, 5, 6, 7, 8, 9, 10, 11, 12, 13, 14, 15, 16, 17, 18], []), ([19, 14, 18, 0, 1, 2, 3, 4, 5, 6, 7, 8, 9, 10, 11, 12, 13, 14, 15, 16, 17, 18], [14, 19])])
def impl_Siphon_run.B6 : List Nat := [0, 1, 0, 4, 15, 0, 32, 0, 128, 511, 0, 1024, 0, 4096, 16383, 3199, 65535, 131071, 262143, 524287, 1048575]
theorem impl_Siphon_run.tab6 : rtab .any (opsOf Try.f55 6) = impl_Siphon_run.T6 := by kernel_rfl
theorem impl_Siphon_run.bits6 : waitsOk impl_Siphon_run.T6.2 impl_Siphon_run.B6 = true := by kernel_rfl
set_option maxHeartbeats 8000000 in
set_option maxRecDepth 100000 in
theorem impl_Siphon_run.calls (k : Nat) (a0_0 : Int) (a0_1 : Int) (a0_2 : Int) (a0_3 : Int) (a1_0 : Int) (a1_1 : Bool) (A2 : Option Addr) (c2 : Nat) (l2 : List Int) (r1 : List (S31)) (r2 : List Int) (r3 : List Int) (w : World) (hr2 : Kd.C (Kd.int .i64) w A2 l2.length l2) (hc2 : l2.length ≤ c2) (h : impl_Siphon_run.f k a0_0 a0_1 a0_2 a0_3 a1_0 a1_1 l2 = some (r1, r2, r3)) :
    Calls Try.prog 55 #[.agg #[.int .i64 a0_0, .int .i64 a0_1, .int .i64 a0_2, .int .i64 a0_3], .agg #[.int .i64 a1_0, .bool a1_1], .slice A2 l2.length c2] w fun e w' => ∃ v0_ v1_ v2_ : Value, e = .returned (.agg #[v0_, v1_, v2_]) ∧ Kd.R k31 31 w' w.heap.size (fun _ => True) v0_ r1 ∧ Kd.R (Kd.int .i64) 3 w' w.heap.size (fun k_ => some k_ ≠ (v2_ : Value).ownBlock) v1_ r2 ∧ Kd.R (Kd.int .i64) 3 w' w.heap.size (fun k_ => some k_ ≠ (v1_ : Value).ownBlock) v2_ r3 ∧ Below w.heap.size w w' := by
  have hu29 := Try.underlying29
  have hu31 := Try.underlying31
  have hu92 := Try.underlying92
  have HR2 := Aside0.mk hr2
  have HC2 := Aside0.mk hc2
  clear hr2 hc2
  have HB := Aside0.mk (Below.refl w.heap.size w)
  have H : (impl_Siphon_run.l0 k l2 (l2.length : Int) 0 a0_0 a0_1 a0_2 a0_3 a1_0 a1_1 (([(⟨a1_0, a1_1⟩ : S31)] : List (S31))) ([] : List Int) ([] : List Int)) = some (r1, r2, r3) := h
  clear h
  obtain ⟨y180, hy180⟩ : ∃ y_ : List (S31), y_ = (([(⟨a1_0, a1_1⟩ : S31)] : List (S31))) := ⟨_, rfl⟩
  replace H : (impl_Siphon_run.l0 k l2 (l2.length : Int) 0 a0_0 a0_1 a0_2 a0_3 a1_0 a1_1 y180 ([] : List Int) ([] : List Int)) = some (r1, r2, r3) := by first | (rw [hy180]; with_reducible exact H) | (have H2_ := (Option.bind_some _ _).symm.trans H; rw [hy180]; with_reducible exact H2_) | (have H2_ := (Option.bind_some _ _).symm.trans H; with_reducible exact H2_) | with_reducible exact H | (rw [hy180]; exact H) | exact H
  have Ny180 := Aside0.mk hy180
  clear hy180
  have H' := Aside0.mk H
  clear H
  go_enter Try.func55, Try.ntmps55
  go_wp2_with (first | ((with_reducible refine gate_dst (N := 3) rfl ?_); refine box_event ?hg (N := 3) ?hd (cs := #[.int .i64 a0_0, .int .i64 a0_1, .int .i64 a0_2, .int .i64 a0_3]) (t := 29) ?hr ?_; (case hd => rfl); (case hg => rfl); (case hr => first | (go_simp; done) | (go_simp; rfl)); intro gb177 hg w4 hbox hb; have n0_ := Aside0.mk (below_step (xs HB.out) hb); have n1_ := Aside0.mk (hbox); have n2_ := Aside0.mk ((by rw [hg]; exact (below_size (xs HB.out)) : w.heap.size ≤ gb177)); have n3_ := Aside0.mk ((by rw [hg]; exact (below_size (xs HB.out)) : w.heap.size ≤ gb177)); clear HB; have HB := n0_; have BK177 := n1_; have GW177 := n2_; have GE177 := n3_; clear n0_ n1_ n2_ n3_; clear hb hbox hg) | ((with_reducible refine gate_dst (N := 4) rfl ?_); refine box_event ?hg (N := 4) ?hd (cs := #[.int .i64 a1_0, .bool a1_1]) (t := 31) ?hr ?_; (case hd => rfl); (case hg => rfl); (case hr => first | (go_simp; done) | (go_simp; rfl)); intro gb178 hg w5 hbox hb; have n0_ := Aside0.mk (blk_below (g := gb177) (o := .cells #[.int .i64 a0_0, .int .i64 a0_1, .int .i64 a0_2, .int .i64 a0_3] 29 (0, 0)) (xb BK177.out) hb); have n1_ := Aside0.mk (below_step (xs HB.out) hb); have n2_ := Aside0.mk (hbox); have n3_ := Aside0.mk ((by rw [hg]; exact (below_size (xs HB.out)) : w.heap.size ≤ gb178)); have n4_ := Aside0.mk ((by rw [hg]; exact (below_size (xs HB.out)) : w.heap.size ≤ gb178)); have n5_ := Aside0.mk ((by rw [hg]; exact Nat.ne_of_lt (blk_lt (g := gb177) (o := .cells #[.int .i64 a0_0, .int .i64 a0_1, .int .i64 a0_2, .int .i64 a0_3] 29 (0, 0)) (xb BK177.out)) : gb177 ≠ gb178)); have n6_ := Aside0.mk ((by rw [hg]; exact Nat.ne_of_gt (blk_lt (g := gb177) (o := .cells #[.int .i64 a0_0, .int .i64 a0_1, .int .i64 a0_2, .int .i64 a0_3] 29 (0, 0)) (xb BK177.out)) : gb178 ≠ gb177)); clear BK177; clear HB; have BK177 := n0_; have HB := n1_; have BK178 := n2_; have GW178 := n3_; have GE178 := n4_; have NB177_178 := n5_; have NB178_177 := n6_; clear n0_ n1_ n2_ n3_ n4_ n5_ n6_; clear hb hbox hg) | ((with_reducible refine gate_dst (N := 6) rfl ?_); refine box_event ?hg (N := 6) ?hd (cs := #[.slice none 0 0, .slice none 0 0, .slice none 0 0]) (t := 92) ?hr ?_; (case hd => rfl); (case hg => rfl); (case hr => first | (go_simp; done) | (go_simp; rfl)); intro gb179 hg w6 hbox hb; have n0_ := Aside0.mk (blk_below (g := gb177) (o := .cells #[.int .i64 a0_0, .int .i64 a0_1, .int .i64 a0_2, .int .i64 a0_3] 29 (0, 0)) (xb BK177.out) hb); have n1_ := Aside0.mk (blk_below (g := gb178) (o := .cells #[.int .i64 a1_0, .bool a1_1] 31 (0, 0)) (xb BK178.out) hb); have n2_ := Aside0.mk (below_step (xs HB.out) hb); have n3_ := Aside0.mk (hbox); have n4_ := Aside0.mk ((by rw [hg]; exact (below_size (xs HB.out)) : w.heap.size ≤ gb179)); have n5_ := Aside0.mk ((by rw [hg]; exact (below_size (xs HB.out)) : w.heap.size ≤ gb179)); have n6_ := Aside0.mk ((by rw [hg]; exact Nat.ne_of_lt (blk_lt (g := gb177) (o := .cells #[.int .i64 a0_0, .int .i64 a0_1, .int .i64 a0_2, .int .i64 a0_3] 29 (0, 0)) (xb BK177.out)) : gb177 ≠ gb179)); have n7_ := Aside0.mk ((by rw [hg]; exact Nat.ne_of_gt (blk_lt (g := gb177) (o := .cells #[.int .i64 a0_0, .int .i64 a0_1, .int .i64 a0_2, .int .i64 a0_3] 29 (0, 0)) (xb BK177.out)) : gb179 ≠ gb177)); have n8_ := Aside0.mk ((by rw [hg]; exact Nat.ne_of_lt (blk_lt (g := gb178) (o := .cells #[.int .i64 a1_0, .bool a1_1] 31 (0, 0)) (xb BK178.out)) : gb178 ≠ gb179)); have n9_ := Aside0.mk ((by rw [hg]; exact Nat.ne_of_gt (blk_lt (g := gb178) (o := .cells #[.int .i64 a1_0, .bool a1_1] 31 (0, 0)) (xb BK178.out)) : gb179 ≠ gb178)); clear BK177; clear BK178; clear HB; have BK177 := n0_; have BK178 := n1_; have HB := n2_; have BK179 := n3_; have GW179 := n4_; have GE179 := n5_; have NB177_179 := n6_; have NB179_177 := n7_; have NB178_179 := n8_; have NB179_178 := n9_; clear n0_ n1_ n2_ n3_ n4_ n5_ n6_ n7_ n8_ n9_; clear hb hbox hg; have hnb7 := NB178_177.out; have hnc7 := NB177_178.out; have hnb8 := NB178_179.out; have hnc8 := NB179_178.out; have hcz9_0 : w6.cell? ⟨gb178, 0, none⟩ = some (.int .i64 a1_0) := (blk_cell BK178.out 0).trans rfl; have hcz9_1 : w6.cell? ⟨gb178, 1, none⟩ = some (.bool a1_1) := (blk_cell BK178.out 1).trans rfl; have hfz9_0 := blk_frozen BK178.out 0; have hfz9_1 := blk_frozen BK178.out 1) | ((with_reducible refine gate_dst (N := 14) rfl ?_); refine Kd.R_lit k31 _ 31 ?hg (N := 14) ?hd (xs := ([(⟨a1_0, a1_1⟩ : S31)] : List (S31))) (inner := [.int .i64 a1_0, .bool a1_1]) (ok := fun _ => True) (okp := fun _ => True) ?hr ?hp (fun _ hk => hk) trivial (Below.refl _ _) (Nat.le_refl _) (by simp) ?_; (case hd => rfl); (case hg => rfl); (case hr => first | (go_simp; done) | (go_simp; rfl)); (case hp => exact (Reps.c2 (show Kd.M k31 _ _ _ (⟨a1_0, a1_1⟩ : S31) [.int .i64 a1_0, .bool a1_1] from (k31_mkM _ _ _ (⟨a1_0, a1_1⟩ : S31) )) (Reps.none _ _))); intro v181 w10 ho11 hb hg_ hnew_; clear hg_ hnew_; (first | rw [← Ny180.out] at ho11 | (simp only [Int.reduceToNat] at ho11; rw [← Ny180.out] at ho11)); have n0_ := Aside0.mk (Kd.R_lower (Kd.R_newB ho11 (g := gb178) (o := .cells #[.int .i64 a1_0, .bool a1_1] 31 (0, 0)) (xb BK178.out)) (below_size (xs HB.out))); have n1_ := Aside0.mk (blk_below (g := gb177) (o := .cells #[.int .i64 a0_0, .int .i64 a0_1, .int .i64 a0_2, .int .i64 a0_3] 29 (0, 0)) (xb BK177.out) hb); have n2_ := Aside0.mk (blk_below (g := gb178) (o := .cells #[.int .i64 a1_0, .bool a1_1] 31 (0, 0)) (xb BK178.out) hb); have n3_ := Aside0.mk (blk_below (g := gb179) (o := .cells #[.slice none 0 0, .slice none 0 0, .slice none 0 0] 92 (0, 0)) (xb BK179.out) hb); have n4_ := Aside0.mk (below_step (xs HB.out) hb); clear BK177; clear BK178; clear BK179; clear HB; have HO182 := n0_; have BK177 := n1_; have BK178 := n2_; have BK179 := n3_; have HB := n4_; clear n0_ n1_ n2_ n3_ n4_; clear hb ho11; obtain ⟨Ao12, co12, eo12⟩ := Kd.R_slice HO182.out; subst eo12) | ((with_reducible refine gate_dst (N := 7) rfl ?_); refine box_event ?hg (N := 7) ?hd (cs := #[.slice none 0 0, .slice none 0 0, .slice none 0 0]) (t := 92) ?hr ?_; (case hd => rfl); (case hg => rfl); (case hr => first | (go_simp; done) | (go_simp; rfl)); intro gb183 hg w13 hbox hb; have n0_ := Aside0.mk (Kd.R_below (xr HO182.out) hb); have n1_ := Aside0.mk (blk_below (g := gb177) (o := .cells #[.int .i64 a0_0, .int .i64 a0_1, .int .i64 a0_2, .int .i64 a0_3] 29 (0, 0)) (xb BK177.out) hb); have n2_ := Aside0.mk (blk_below (g := gb178) (o := .cells #[.int .i64 a1_0, .bool a1_1] 31 (0, 0)) (xb BK178.out) hb); have n3_ := Aside0.mk (blk_below (g := gb179) (o := .cells #[.slice none 0 0, .slice none 0 0, .slice none 0 0] 92 (0, 0)) (xb BK179.out) hb); have n4_ := Aside0.mk (below_step (xs HB.out) hb); have n5_ := Aside0.mk (hbox); have n6_ := Aside0.mk ((by rw [hg]; exact (below_size (xs HB.out)) : w.heap.size ≤ gb183)); have n7_ := Aside0.mk ((by rw [hg]; exact (below_size (xs HB.out)) : w.heap.size ≤ gb183)); have n8_ := Aside0.mk ((by rw [hg]; exact Nat.ne_of_lt (blk_lt (g := gb177) (o := .cells #[.int .i64 a0_0, .int .i64 a0_1, .int .i64 a0_2, .int .i64 a0_3] 29 (0, 0)) (xb BK177.out)) : gb177 ≠ gb183)); have n9_ := Aside0.mk ((by rw [hg]; exact Nat.ne_of_gt (blk_lt (g := gb177) (o := .cells #[.int .i64 a0_0, .int .i64 a0_1, .int .i64 a0_2, .int .i64 a0_3] 29 (0, 0)) (xb BK177.out)) : gb183 ≠ gb177)); have n10_ := Aside0.mk ((by rw [hg]; exact Nat.ne_of_lt (blk_lt (g := gb178) (o := .cells #[.int .i64 a1_0, .bool a1_1] 31 (0, 0)) (xb BK178.out)) : gb178 ≠ gb183)); have n11_ := Aside0.mk ((by rw [hg]; exact Nat.ne_of_gt (blk_lt (g := gb178) (o := .cells #[.int .i64 a1_0, .bool a1_1] 31 (0, 0)) (xb BK178.out)) : gb183 ≠ gb178)); have n12_ := Aside0.mk ((by rw [hg]; exact Nat.ne_of_lt (blk_lt (g := gb179) (o := .cells #[.slice none 0 0, .slice none 0 0, .slice none 0 0] 92 (0, 0)) (xb BK179.out)) : gb179 ≠ gb183)); have n13_ := Aside0.mk ((by rw [hg]; exact Nat.ne_of_gt (blk_lt (g := gb179) (o := .cells #[.slice none 0 0, .slice none 0 0, .slice none 0 0] 92 (0, 0)) (xb BK179.out)) : gb183 ≠ gb179)); clear HO182; clear BK177; clear BK178; clear BK179; clear HB; have HO182 := n0_; have BK177 := n1_; have BK178 := n2_; have BK179 := n3_; have HB := n4_; have BK183 := n5_; have GW183 := n6_; have GE183 := n7_; have NB177_183 := n8_; have NB183_177 := n9_; have NB178_183 := n10_; have NB183_178 := n11_; have NB179_183 := n12_; have NB183_179 := n13_; clear n0_ n1_ n2_ n3_ n4_ n5_ n6_ n7_ n8_ n9_ n10_ n11_ n12_ n13_; clear hb hbox hg; have hnb14 := NB183_177.out; have hnc14 := NB177_183.out; have hnb15 := NB183_178.out; have hnc15 := NB178_183.out; have hnb16 := NB183_179.out; have hnc16 := NB179_183.out; have hcz17_0 : w13.cell? ⟨gb183, 0, none⟩ = some (.slice none 0 0) := (blk_cell BK183.out 0).trans rfl; have hcz17_1 : w13.cell? ⟨gb183, 1, none⟩ = some (.slice none 0 0) := (blk_cell BK183.out 1).trans rfl; have hcz17_2 : w13.cell? ⟨gb183, 2, none⟩ = some (.slice none 0 0) := (blk_cell BK183.out 2).trans rfl; have hfz17_0 := blk_frozen BK183.out 0; have hfz17_1 := blk_frozen BK183.out 1; have hfz17_2 := blk_frozen BK183.out 2))
  go_loopg [18] k (fun kq v18 w' => ∃ (x18_1 : Int) (x179000_1 : Int) (x179001_1 : Bool) (x184000_1 : List (S31)) (x184001_1 : List Int) (x184002_1 : List Int) (u184000 : Value) (u184001 : Value) (u184002 : Value), v18 = .int .i64 x18_1 ∧ Aside0 (impl_Siphon_run.l0 kq l2 (l2.length : Int) x18_1 a0_0 a0_1 a0_2 a0_3 x179000_1 x179001_1 x184000_1 x184001_1 x184002_1 = some (r1, r2, r3)) ∧ Aside0 (kq ≤ k) ∧ Aside0 (Kd.R k31 31 w' w.heap.size (fun k_ => k_ ≠ gb178) u184000 x184000_1) ∧ Aside0 (Kd.R (Kd.int .i64) 3 w' w.heap.size (fun k_ => some k_ ≠ (u184002 : Value).ownBlock) u184001 x184001_1) ∧ Aside0 (Kd.R (Kd.int .i64) 3 w' w.heap.size (fun k_ => some k_ ≠ (u184001 : Value).ownBlock) u184002 x184002_1) ∧ Aside0 (w'.heap[gb177]? = some (.cells #[.int .i64 a0_0, .int .i64 a0_1, .int .i64 a0_2, .int .i64 a0_3] 29 (0, 0))) ∧ Aside0 (w'.heap[gb178]? = some (.cells #[.int .i64 x179000_1, .bool x179001_1] 31 (0, 0))) ∧ Aside0 (w'.heap[gb179]? = some (.cells #[(.slice none 0 0), (.slice none 0 0), (.slice none 0 0)] 92 (0, 0))) ∧ Aside0 (w'.heap[gb183]? = some (.cells #[u184000, u184001, u184002] 92 (0, 0))) ∧ Aside0 (Below w.heap.size w w'))
  case atStart => exact ⟨(0), (a1_0), (a1_1), (y180), (([] : List Int)), (([] : List Int)), (.slice Ao12 y180.length co12), (.slice none 0 0), (.slice none 0 0), (by first | rfl | (simp; done) | (simp [*]; done)), H', ⟨Nat.le_refl _⟩, ⟨by (with_reducible repeat (first | apply Kd.R_alloc | apply Kd.R_drewN | apply Kd.R_drew)); exact Kd.R_mono (Kd.R_far (p := ⟨gb183, 2, none⟩) (Kd.R_far (p := ⟨gb183, 1, none⟩) (Kd.R_far (p := ⟨gb183, 0, none⟩) (Kd.R_types HO182.out BK183.out (by decide)) (fun _ hk => hk.2) (.slice Ao12 y180.length co12)) (fun _ hk => hk.2) (.slice none 0 0)) (fun _ hk => hk.2) (.slice none 0 0)) (fun _ hk => hk.1.2)⟩, ⟨by first | exact Kd.R_nil _ _ _ _ _ | exact Kd.N_nil _ _ _ _ _ | exact Kd.V_nil _ _ _ _ _ | exact Kd.Q_nil _ _ _ _ _ | exact Kd.S_nil _ _ _ _ _⟩, ⟨by first | exact Kd.R_nil _ _ _ _ _ | exact Kd.N_nil _ _ _ _ _ | exact Kd.V_nil _ _ _ _ _ | exact Kd.Q_nil _ _ _ _ _ | exact Kd.S_nil _ _ _ _ _⟩, ⟨by (with_reducible repeat (first | refine blk_drewN ?_ _ | refine blk_drew ?_ | refine blk_alloc ?_ _)); refine blk_far ?_ NB177_183.out _; (with_reducible repeat (first | refine blk_drewN ?_ _ | refine blk_drew ?_ | refine blk_alloc ?_ _)); refine blk_far ?_ NB177_183.out _; (with_reducible repeat (first | refine blk_drewN ?_ _ | refine blk_drew ?_ | refine blk_alloc ?_ _)); refine blk_far ?_ NB177_183.out _; (with_reducible repeat (first | refine blk_drewN ?_ _ | refine blk_drew ?_ | refine blk_alloc ?_ _)); exact BK177.out⟩, ⟨by (with_reducible repeat (first | refine blk_drewN ?_ _ | refine blk_drew ?_ | refine blk_alloc ?_ _)); refine blk_far ?_ NB178_183.out _; (with_reducible repeat (first | refine blk_drewN ?_ _ | refine blk_drew ?_ | refine blk_alloc ?_ _)); refine blk_far ?_ NB178_183.out _; (with_reducible repeat (first | refine blk_drewN ?_ _ | refine blk_drew ?_ | refine blk_alloc ?_ _)); refine blk_far ?_ NB178_183.out _; (with_reducible repeat (first | refine blk_drewN ?_ _ | refine blk_drew ?_ | refine blk_alloc ?_ _)); exact BK178.out⟩, ⟨by (with_reducible repeat (first | refine blk_drewN ?_ _ | refine blk_drew ?_ | refine blk_alloc ?_ _)); refine blk_far ?_ NB179_183.out _; (with_reducible repeat (first | refine blk_drewN ?_ _ | refine blk_drew ?_ | refine blk_alloc ?_ _)); refine blk_far ?_ NB179_183.out _; (with_reducible repeat (first | refine blk_drewN ?_ _ | refine blk_drew ?_ | refine blk_alloc ?_ _)); refine blk_far ?_ NB179_183.out _; (with_reducible repeat (first | refine blk_drewN ?_ _ | refine blk_drew ?_ | refine blk_alloc ?_ _)); exact BK179.out⟩, ⟨by (with_reducible repeat (first | refine blk_drewN ?_ _ | refine blk_drew ?_ | refine blk_alloc ?_ _)); refine blk_put (cs := #[.slice Ao12 y180.length co12, .slice none 0 0, .slice none 0 0]) ?_ 2 _ rfl; (with_reducible repeat (first | refine blk_drewN ?_ _ | refine blk_drew ?_ | refine blk_alloc ?_ _)); refine blk_put (cs := #[.slice Ao12 y180.length co12, .slice none 0 0, .slice none 0 0]) ?_ 1 _ rfl; (with_reducible repeat (first | refine blk_drewN ?_ _ | refine blk_drew ?_ | refine blk_alloc ?_ _)); refine blk_put (cs := #[.slice none 0 0, .slice none 0 0, .slice none 0 0]) ?_ 0 _ rfl; (with_reducible repeat (first | refine blk_drewN ?_ _ | refine blk_drew ?_ | refine blk_alloc ?_ _)); exact BK183.out⟩, ⟨xs HB.out⟩⟩
  case round =>
    clear H'
    try clear c1
    try clear c2
    try clear p2
    try clear c5
    try clear c7
    try clear c8
    try clear c14
    try clear c15
    try clear c16
    try clear hcz17_0
    try clear hcz17_1
    try clear hcz17_2
    try clear hcz9_0
    try clear hcz9_1
    try clear hfz17_0
    try clear hfz17_1
    try clear hfz17_2
    try clear hfz9_0
    try clear hfz9_1
    obtain ⟨x18_1, x179000_1, x179001_1, x184000_1, x184001_1, x184002_1, u184000, u184001, u184002, rfl, HA, HK1, HO_184000, HO_184001, HO_184002, BK177, BK178, BK179, BK183, HB⟩ := hrel
    cases gk with
    | zero => exact absurd HA.out (by simp [impl_Siphon_run.l0])
    | succ k1 =>
      have H := HA.out
      clear HA
      simp only [impl_Siphon_run.l0] at H
      by_cases c18 : x18_1 < (l2.length : Int)
      · rw [if_pos c18] at H
        have c18b0 : decide (x18_1 < (l2.length : Int)) = true := decide_eq_true c18
        clear c18
        by_cases c19 : 0 ≤ x18_1
        · rw [if_pos c19] at H
          have c19b0 : decide (0 ≤ x18_1) = true := decide_eq_true c19
          clear c19
          by_cases c20 : x18_1 < (l2.length : Int)
          · rw [if_pos c20] at H
            have c20b0 : decide (x18_1 < (l2.length : Int)) = true := decide_eq_true c20
            clear c20
            replace H := Option.bind_eq_some_iff.mp H
            obtain ⟨⟨t185, t186, t187, t188⟩, A210, H⟩ := H
            replace H : ((some (([(⟨t185, t186⟩ : S31)] : List (S31)) : List (S31))).bind fun y190 => (if x184000_1.length + y190.length < 8796093022208 then ((some (([t187] : List Int) : List Int)).bind fun y196 => (if x184001_1.length + y196.length < 17592186044416 then ((some (([t188] : List Int) : List Int)).bind fun y202 => (if x184002_1.length + y202.length < 17592186044416 then (impl_Siphon_run.l0 k1 l2 (l2.length : Int) (wrap64 (x18_1 + 1)) a0_0 a0_1 a0_2 a0_3 t185 t186 (x184000_1 ++ y190) (x184001_1 ++ y196) (x184002_1 ++ y202)) else (none))) else (none))) else (none))) = some (r1, r2, r3) := H
            have A21 := Aside0.mk A210
            clear A210
            obtain ⟨y190, hy190⟩ : ∃ y_ : List (S31), y_ = (([(⟨t185, t186⟩ : S31)] : List (S31))) := ⟨_, rfl⟩
            replace H : (if x184000_1.length + y190.length < 8796093022208 then ((some (([t187] : List Int) : List Int)).bind fun y196 => (if x184001_1.length + y196.length < 17592186044416 then ((some (([t188] : List Int) : List Int)).bind fun y202 => (if x184002_1.length + y202.length < 17592186044416 then (impl_Siphon_run.l0 k1 l2 (l2.length : Int) (wrap64 (x18_1 + 1)) a0_0 a0_1 a0_2 a0_3 t185 t186 (x184000_1 ++ y190) (x184001_1 ++ y196) (x184002_1 ++ y202)) else (none))) else (none))) else (none)) = some (r1, r2, r3) := by first | (rw [hy190]; with_reducible exact H) | (have H2_ := (Option.bind_some _ _).symm.trans H; rw [hy190]; with_reducible exact H2_) | (have H2_ := (Option.bind_some _ _).symm.trans H; with_reducible exact H2_) | with_reducible exact H | (rw [hy190]; exact H) | exact H
            have Ny190 := Aside0.mk hy190
            clear hy190
            by_cases c22 : x184000_1.length + y190.length < 8796093022208
            · rw [if_pos c22] at H
              have LMc22 := Aside0.mk c22
              clear c22
              obtain ⟨y193, hy193⟩ : ∃ y_ : List (S31), y_ = (x184000_1 ++ y190) := ⟨_, rfl⟩
              replace H : ((some (([t187] : List Int) : List Int)).bind fun y196 => (if x184001_1.length + y196.length < 17592186044416 then ((some (([t188] : List Int) : List Int)).bind fun y202 => (if x184002_1.length + y202.length < 17592186044416 then (impl_Siphon_run.l0 k1 l2 (l2.length : Int) (wrap64 (x18_1 + 1)) a0_0 a0_1 a0_2 a0_3 t185 t186 y193 (x184001_1 ++ y196) (x184002_1 ++ y202)) else (none))) else (none))) = some (r1, r2, r3) := by first | (rw [hy193]; with_reducible exact H) | (have H2_ := (Option.bind_some _ _).symm.trans H; rw [hy193]; with_reducible exact H2_) | (have H2_ := (Option.bind_some _ _).symm.trans H; with_reducible exact H2_) | with_reducible exact H | (rw [hy193]; exact H) | exact H
              have Ny193 := Aside0.mk hy193
              clear hy193
              obtain ⟨y196, hy196⟩ : ∃ y_ : List Int, y_ = (([t187] : List Int)) := ⟨_, rfl⟩
              replace H : (if x184001_1.length + y196.length < 17592186044416 then ((some (([t188] : List Int) : List Int)).bind fun y202 => (if x184002_1.length + y202.length < 17592186044416 then (impl_Siphon_run.l0 k1 l2 (l2.length : Int) (wrap64 (x18_1 + 1)) a0_0 a0_1 a0_2 a0_3 t185 t186 y193 (x184001_1 ++ y196) (x184002_1 ++ y202)) else (none))) else (none)) = some (r1, r2, r3) := by first | (rw [hy196]; with_reducible exact H) | (have H2_ := (Option.bind_some _ _).symm.trans H; rw [hy196]; with_reducible exact H2_) | (have H2_ := (Option.bind_some _ _).symm.trans H; with_reducible exact H2_) | with_reducible exact H | (rw [hy196]; exact H) | exact H
              have Ny196 := Aside0.mk hy196
              clear hy196
              by_cases c23 : x184001_1.length + y196.length < 17592186044416
              · rw [if_pos c23] at H
                have LMc23 := Aside0.mk c23
                clear c23
                obtain ⟨y199, hy199⟩ : ∃ y_ : List Int, y_ = (x184001_1 ++ y196) := ⟨_, rfl⟩
                replace H : ((some (([t188] : List Int) : List Int)).bind fun y202 => (if x184002_1.length + y202.length < 17592186044416 then (impl_Siphon_run.l0 k1 l2 (l2.length : Int) (wrap64 (x18_1 + 1)) a0_0 a0_1 a0_2 a0_3 t185 t186 y193 y199 (x184002_1 ++ y202)) else (none))) = some (r1, r2, r3) := by first | (rw [hy199]; with_reducible exact H) | (have H2_ := (Option.bind_some _ _).symm.trans H; rw [hy199]; with_reducible exact H2_) | (have H2_ := (Option.bind_some _ _).symm.trans H; with_reducible exact H2_) | with_reducible exact H | (rw [hy199]; exact H) | exact H
                have Ny199 := Aside0.mk hy199
                clear hy199
                obtain ⟨y202, hy202⟩ : ∃ y_ : List Int, y_ = (([t188] : List Int)) := ⟨_, rfl⟩
                replace H : (if x184002_1.length + y202.length < 17592186044416 then (impl_Siphon_run.l0 k1 l2 (l2.length : Int) (wrap64 (x18_1 + 1)) a0_0 a0_1 a0_2 a0_3 t185 t186 y193 y199 (x184002_1 ++ y202)) else (none)) = some (r1, r2, r3) := by first | (rw [hy202]; with_reducible exact H) | (have H2_ := (Option.bind_some _ _).symm.trans H; rw [hy202]; with_reducible exact H2_) | (have H2_ := (Option.bind_some _ _).symm.trans H; with_reducible exact H2_) | with_reducible exact H | (rw [hy202]; exact H) | exact H
                have Ny202 := Aside0.mk hy202
                clear hy202
                by_cases c24 : x184002_1.length + y202.length < 17592186044416
                · rw [if_pos c24] at H
                  have LMc24 := Aside0.mk c24
                  clear c24
                  obtain ⟨y205, hy205⟩ : ∃ y_ : List Int, y_ = (x184002_1 ++ y202) := ⟨_, rfl⟩
                  replace H : (impl_Siphon_run.l0 k1 l2 (l2.length : Int) (wrap64 (x18_1 + 1)) a0_0 a0_1 a0_2 a0_3 t185 t186 y193 y199 y205) = some (r1, r2, r3) := by first | (rw [hy205]; with_reducible exact H) | (have H2_ := (Option.bind_some _ _).symm.trans H; rw [hy205]; with_reducible exact H2_) | (have H2_ := (Option.bind_some _ _).symm.trans H; with_reducible exact H2_) | with_reducible exact H | (rw [hy205]; exact H) | exact H
                  have Ny205 := Aside0.mk hy205
                  clear hy205
                  have H' := Aside0.mk H
                  clear H
                  have p184 : 0 ≤ (x18_1 : Int) := of_decide_eq_true (by first | (with_reducible assumption) | assumption)
                  have q184 : x18_1 < (l2.length : Int) := of_decide_eq_true (by first | (with_reducible assumption) | assumption)
                  obtain ⟨ad184, e184, hx184_0⟩ := Kd.at_int HR2.out x18_1 p184 q184
                  cases e184
                  replace hx184_0 := (HB.out.cell (World.block_lt_of_cell? w _ hx184_0)).trans hx184_0
                  replace p184 := eq_true p184
                  replace q184 := eq_true q184
                  have hnb25 := NB177_178.out
                  have hnc25 := NB178_177.out
                  have hnb26 := NB177_179.out
                  have hnc26 := NB179_177.out
                  have hnb27 := NB177_183.out
                  have hnc27 := NB183_177.out
                  have hcz28_0 : wr.cell? ⟨gb177, 0, none⟩ = some (.int .i64 a0_0) := (blk_cell BK177.out 0).trans rfl
                  have hcz28_1 : wr.cell? ⟨gb177, 1, none⟩ = some (.int .i64 a0_1) := (blk_cell BK177.out 1).trans rfl
                  have hcz28_2 : wr.cell? ⟨gb177, 2, none⟩ = some (.int .i64 a0_2) := (blk_cell BK177.out 2).trans rfl
                  have hcz28_3 : wr.cell? ⟨gb177, 3, none⟩ = some (.int .i64 a0_3) := (blk_cell BK177.out 3).trans rfl
                  have hfz28_0 := blk_frozen BK177.out 0
                  have hfz28_1 := blk_frozen BK177.out 1
                  have hfz28_2 := blk_frozen BK177.out 2
                  have hfz28_3 := blk_frozen BK177.out 3
                  have hnb29 := NB178_179.out
                  have hnc29 := NB179_178.out
                  have hnb30 := NB178_183.out
                  have hnc30 := NB183_178.out
                  have hcz31_0 : wr.cell? ⟨gb178, 0, none⟩ = some (.int .i64 x179000_1) := (blk_cell BK178.out 0).trans rfl
                  have hcz31_1 : wr.cell? ⟨gb178, 1, none⟩ = some (.bool x179001_1) := (blk_cell BK178.out 1).trans rfl
                  have hfz31_0 := blk_frozen BK178.out 0
                  have hfz31_1 := blk_frozen BK178.out 1
                  try go_wp2_with (first | ((with_reducible refine gate_callee (f := 91) rfl ?_); refine goesL_ (some 26) rfl rfl Try.func91 (by kernel_rfl) rfl #[.agg #[.int .i64 a0_0, .int .i64 a0_1, .int .i64 a0_2, .int .i64 a0_3], .agg #[.int .i64 x179000_1, .bool x179001_1], .int .i64 (rd l2 x18_1)] rfl (by (try simp only [List.map_toArray, List.map_cons, List.map_nil]); first | done | rfl | (simp only [List.length_drop, List.length_take]; rfl)) ?_; (with_reducible refine (impl_Siphon_tick.calls a0_0 a0_1 a0_2 a0_3 x179000_1 x179001_1 (rd l2 x18_1) t185 t186 t187 t188 _ A21.out).mono ?_); rintro e w32 ⟨rfl, hb⟩; refine ⟨_, rfl, ?_⟩; have n0_ := Aside0.mk (Kd.R_below (xr HO_184000.out) hb); have n1_ := Aside0.mk (Kd.R_below (xr HO_184001.out) hb); have n2_ := Aside0.mk (Kd.R_below (xr HO_184002.out) hb); have n3_ := Aside0.mk (blk_below (g := gb177) (o := .cells #[.int .i64 a0_0, .int .i64 a0_1, .int .i64 a0_2, .int .i64 a0_3] 29 (0, 0)) (xb BK177.out) hb); have n4_ := Aside0.mk (blk_below (g := gb178) (o := .cells #[.int .i64 x179000_1, .bool x179001_1] 31 (0, 0)) (xb BK178.out) hb); have n5_ := Aside0.mk (blk_below (g := gb179) (o := .cells #[.slice none 0 0, .slice none 0 0, .slice none 0 0] 92 (0, 0)) (xb BK179.out) hb); have n6_ := Aside0.mk (blk_below (g := gb183) (o := .cells #[u184000, u184001, u184002] 92 (0, 0)) (xb BK183.out) hb); have n7_ := Aside0.mk (below_step (xs HB.out) hb); clear HO_184000; clear HO_184001; clear HO_184002; clear BK177; clear BK178; clear BK179; clear BK183; clear HB; have HO_184000 := n0_; have HO_184001 := n1_; have HO_184002 := n2_; have BK177 := n3_; have BK178 := n4_; have BK179 := n5_; have BK183 := n6_; have HB := n7_; clear n0_ n1_ n2_ n3_ n4_ n5_ n6_ n7_; (try clear hb); (try clear hb2); (try clear hk); (try clear hi)) | ((with_reducible refine gate_dst (N := 10) rfl ?_); refine box_event ?hg (N := 10) ?hd (cs := #[.int .i64 0, .bool false]) (t := 31) ?hr ?_; (case hd => rfl); (case hg => rfl); (case hr => first | (go_simp; done) | (go_simp; rfl)); intro gb189 hg w33 hbox hb; have n0_ := Aside0.mk (Kd.R_below (Kd.R_elderB (xr HO_184000.out) gb189 (Nat.le_of_eq hg.symm)) hb); have n1_ := Aside0.mk (Kd.R_below (xr HO_184001.out) hb); have n2_ := Aside0.mk (Kd.R_below (xr HO_184002.out) hb); have n3_ := Aside0.mk (blk_below (g := gb177) (o := .cells #[.int .i64 a0_0, .int .i64 a0_1, .int .i64 a0_2, .int .i64 a0_3] 29 (0, 0)) (xb BK177.out) hb); have n4_ := Aside0.mk (blk_below (g := gb178) (o := .cells #[.int .i64 x179000_1, .bool x179001_1] 31 (0, 0)) (xb BK178.out) hb); have n5_ := Aside0.mk (blk_below (g := gb179) (o := .cells #[.slice none 0 0, .slice none 0 0, .slice none 0 0] 92 (0, 0)) (xb BK179.out) hb); have n6_ := Aside0.mk (blk_below (g := gb183) (o := .cells #[u184000, u184001, u184002] 92 (0, 0)) (xb BK183.out) hb); have n7_ := Aside0.mk (below_step (xs HB.out) hb); have n8_ := Aside0.mk (hbox); have n9_ := Aside0.mk ((by rw [hg]; exact (below_size (xs HB.out)) : w.heap.size ≤ gb189)); have n10_ := Aside0.mk ((by rw [hg]; exact (below_size (xs HB.out)) : w.heap.size ≤ gb189)); have n11_ := Aside0.mk ((by rw [hg]; exact Nat.ne_of_lt (blk_lt (g := gb177) (o := .cells #[.int .i64 a0_0, .int .i64 a0_1, .int .i64 a0_2, .int .i64 a0_3] 29 (0, 0)) (xb BK177.out)) : gb177 ≠ gb189)); have n12_ := Aside0.mk ((by rw [hg]; exact Nat.ne_of_gt (blk_lt (g := gb177) (o := .cells #[.int .i64 a0_0, .int .i64 a0_1, .int .i64 a0_2, .int .i64 a0_3] 29 (0, 0)) (xb BK177.out)) : gb189 ≠ gb177)); have n13_ := Aside0.mk ((by rw [hg]; exact Nat.ne_of_lt (blk_lt (g := gb178) (o := .cells #[.int .i64 x179000_1, .bool x179001_1] 31 (0, 0)) (xb BK178.out)) : gb178 ≠ gb189)); have n14_ := Aside0.mk ((by rw [hg]; exact Nat.ne_of_gt (blk_lt (g := gb178) (o := .cells #[.int .i64 x179000_1, .bool x179001_1] 31 (0, 0)) (xb BK178.out)) : gb189 ≠ gb178)); have n15_ := Aside0.mk ((by rw [hg]; exact Nat.ne_of_lt (blk_lt (g := gb179) (o := .cells #[.slice none 0 0, .slice none 0 0, .slice none 0 0] 92 (0, 0)) (xb BK179.out)) : gb179 ≠ gb189)); have n16_ := Aside0.mk ((by rw [hg]; exact Nat.ne_of_gt (blk_lt (g := gb179) (o := .cells #[.slice none 0 0, .slice none 0 0, .slice none 0 0] 92 (0, 0)) (xb BK179.out)) : gb189 ≠ gb179)); have n17_ := Aside0.mk ((by rw [hg]; exact Nat.ne_of_lt (blk_lt (g := gb183) (o := .cells #[u184000, u184001, u184002] 92 (0, 0)) (xb BK183.out)) : gb183 ≠ gb189)); have n18_ := Aside0.mk ((by rw [hg]; exact Nat.ne_of_gt (blk_lt (g := gb183) (o := .cells #[u184000, u184001, u184002] 92 (0, 0)) (xb BK183.out)) : gb189 ≠ gb183)); clear HO_184000; clear HO_184001; clear HO_184002; clear BK177; clear BK178; clear BK179; clear BK183; clear HB; have HO_184000 := n0_; have HO_184001 := n1_; have HO_184002 := n2_; have BK177 := n3_; have BK178 := n4_; have BK179 := n5_; have BK183 := n6_; have HB := n7_; have BK189 := n8_; have GW189 := n9_; have GE189 := n10_; have NB177_189 := n11_; have NB189_177 := n12_; have NB178_189 := n13_; have NB189_178 := n14_; have NB179_189 := n15_; have NB189_179 := n16_; have NB183_189 := n17_; have NB189_183 := n18_; clear n0_ n1_ n2_ n3_ n4_ n5_ n6_ n7_ n8_ n9_ n10_ n11_ n12_ n13_ n14_ n15_ n16_ n17_ n18_; clear hb hbox hg; have hnb34 := NB189_177.out; have hnc34 := NB177_189.out; have hnb35 := NB189_178.out; have hnc35 := NB178_189.out; have hnb36 := NB189_179.out; have hnc36 := NB179_189.out; have hnb37 := NB189_183.out; have hnc37 := NB183_189.out; have hcz38_0 : w33.cell? ⟨gb189, 0, none⟩ = some (.int .i64 0) := (blk_cell BK189.out 0).trans rfl; have hcz38_1 : w33.cell? ⟨gb189, 1, none⟩ = some (.bool false) := (blk_cell BK189.out 1).trans rfl; have hfz38_0 := blk_frozen BK189.out 0; have hfz38_1 := blk_frozen BK189.out 1; obtain ⟨Ao39, co39, eo39⟩ := Kd.R_slice HO_184000.out; subst eo39; obtain ⟨Ao40, co40, eo40⟩ := Kd.R_slice HO_184001.out; subst eo40; obtain ⟨Ao41, co41, eo41⟩ := Kd.R_slice HO_184002.out; subst eo41))
                  have n0_ : Aside0 (Kd.R k31 31 ((w33.setCell ⟨gb189, 0, none⟩ (.int .i64 t185)).setCell ⟨gb189, 1, none⟩ (.bool t186)) w.heap.size (fun k_ => k_ ≠ gb178 ∧ k_ ≠ gb189) (.slice Ao39 x184000_1.length co39) x184000_1) := ⟨by (with_reducible repeat (first | apply Kd.R_alloc | apply Kd.R_drewN | apply Kd.R_drew)); exact Kd.R_mono (Kd.R_far (p := ⟨gb189, 1, none⟩) (Kd.R_far (p := ⟨gb189, 0, none⟩) (Kd.R_mono HO_184000.out (fun k_ hk => (⟨hk, hk.2⟩ : _ ∧ k_ ≠ gb189))) (fun _ hk => hk.2) (.int .i64 t185)) (fun _ hk => hk.2) (.bool t186)) (fun _ hk => ⟨hk.1.1, hk.1.2⟩)⟩
                  have n1_ : Aside0 (Kd.R (Kd.int .i64) 3 ((w33.setCell ⟨gb189, 0, none⟩ (.int .i64 t185)).setCell ⟨gb189, 1, none⟩ (.bool t186)) w.heap.size (fun k_ => some k_ ≠ (.slice Ao41 x184002_1.length co41 : Value).ownBlock) (.slice Ao40 x184001_1.length co40) x184001_1) := ⟨by (with_reducible repeat (first | apply Kd.R_alloc | apply Kd.R_drewN | apply Kd.R_drew)); exact Kd.R_mono (Kd.R_far (p := ⟨gb189, 1, none⟩) (Kd.R_far (p := ⟨gb189, 0, none⟩) (Kd.R_types HO_184001.out BK189.out (by decide)) (fun _ hk => hk.2) (.int .i64 t185)) (fun _ hk => hk.2) (.bool t186)) (fun _ hk => hk.1)⟩
                  have n2_ : Aside0 (Kd.R (Kd.int .i64) 3 ((w33.setCell ⟨gb189, 0, none⟩ (.int .i64 t185)).setCell ⟨gb189, 1, none⟩ (.bool t186)) w.heap.size (fun k_ => some k_ ≠ (.slice Ao40 x184001_1.length co40 : Value).ownBlock) (.slice Ao41 x184002_1.length co41) x184002_1) := ⟨by (with_reducible repeat (first | apply Kd.R_alloc | apply Kd.R_drewN | apply Kd.R_drew)); exact Kd.R_mono (Kd.R_far (p := ⟨gb189, 1, none⟩) (Kd.R_far (p := ⟨gb189, 0, none⟩) (Kd.R_types HO_184002.out BK189.out (by decide)) (fun _ hk => hk.2) (.int .i64 t185)) (fun _ hk => hk.2) (.bool t186)) (fun _ hk => hk.1)⟩
                  have n3_ : Aside0 (((w33.setCell ⟨gb189, 0, none⟩ (.int .i64 t185)).setCell ⟨gb189, 1, none⟩ (.bool t186)).heap[gb177]? = some (.cells #[.int .i64 a0_0, .int .i64 a0_1, .int .i64 a0_2, .int .i64 a0_3] 29 (0, 0))) := ⟨xff NB177_189.out NB177_189.out BK177.out⟩
                  have n4_ : Aside0 (((w33.setCell ⟨gb189, 0, none⟩ (.int .i64 t185)).setCell ⟨gb189, 1, none⟩ (.bool t186)).heap[gb178]? = some (.cells #[.int .i64 x179000_1, .bool x179001_1] 31 (0, 0))) := ⟨xff NB178_189.out NB178_189.out BK178.out⟩
                  have n5_ : Aside0 (((w33.setCell ⟨gb189, 0, none⟩ (.int .i64 t185)).setCell ⟨gb189, 1, none⟩ (.bool t186)).heap[gb179]? = some (.cells #[.slice none 0 0, .slice none 0 0, .slice none 0 0] 92 (0, 0))) := ⟨xff NB179_189.out NB179_189.out BK179.out⟩
                  have n6_ : Aside0 (((w33.setCell ⟨gb189, 0, none⟩ (.int .i64 t185)).setCell ⟨gb189, 1, none⟩ (.bool t186)).heap[gb183]? = some (.cells #[.slice Ao39 x184000_1.length co39, .slice Ao40 x184001_1.length co40, .slice Ao41 x184002_1.length co41] 92 (0, 0))) := ⟨xff NB183_189.out NB183_189.out BK183.out⟩
                  have n7_ : Aside0 (((w33.setCell ⟨gb189, 0, none⟩ (.int .i64 t185)).setCell ⟨gb189, 1, none⟩ (.bool t186)).heap[gb189]? = some (.cells #[.int .i64 t185, .bool t186] 31 (0, 0))) := ⟨by (with_reducible repeat (first | refine blk_drewN ?_ _ | refine blk_drew ?_ | refine blk_alloc ?_ _)); refine blk_put (cs := #[.int .i64 t185, .bool false]) ?_ 1 _ rfl; (with_reducible repeat (first | refine blk_drewN ?_ _ | refine blk_drew ?_ | refine blk_alloc ?_ _)); refine blk_put (cs := #[.int .i64 0, .bool false]) ?_ 0 _ rfl; (with_reducible repeat (first | refine blk_drewN ?_ _ | refine blk_drew ?_ | refine blk_alloc ?_ _)); exact BK189.out⟩
                  have n8_ : Aside0 (Below w.heap.size w ((w33.setCell ⟨gb189, 0, none⟩ (.int .i64 t185)).setCell ⟨gb189, 1, none⟩ (.bool t186))) := ⟨xs HB.out⟩
                  (try clear HO_184000)
                  (try clear HO_184001)
                  (try clear HO_184002)
                  (try clear BK177)
                  (try clear BK178)
                  (try clear BK179)
                  (try clear BK183)
                  (try clear BK189)
                  (try clear HB)
                  generalize ((w33.setCell ⟨gb189, 0, none⟩ (.int .i64 t185)).setCell ⟨gb189, 1, none⟩ (.bool t186)) = w42 at n0_ n1_ n2_ n3_ n4_ n5_ n6_ n7_ n8_ ⊢
                  have HO_184000 := n0_
                  have HO_184001 := n1_
                  have HO_184002 := n2_
                  have BK177 := n3_
                  have BK178 := n4_
                  have BK179 := n5_
                  have BK183 := n6_
                  have BK189 := n7_
                  have HB := n8_
                  clear n0_ n1_ n2_ n3_ n4_ n5_ n6_ n7_ n8_
                  have n0_ := Aside0.mk (Kd.R_drew HO_184000.out)
                  have n1_ := Aside0.mk (Kd.R_drew HO_184001.out)
                  have n2_ := Aside0.mk (Kd.R_drew HO_184002.out)
                  have n3_ := Aside0.mk (blk_drew BK177.out)
                  have n4_ := Aside0.mk (blk_drew BK178.out)
                  have n5_ := Aside0.mk (blk_drew BK179.out)
                  have n6_ := Aside0.mk (blk_drew BK183.out)
                  have n7_ := Aside0.mk (blk_drew BK189.out)
                  have n8_ := Aside0.mk (below_drew1 HB.out)
                  clear HO_184000
                  clear HO_184001
                  clear HO_184002
                  clear BK177
                  clear BK178
                  clear BK179
                  clear BK183
                  clear BK189
                  clear HB
                  have HO_184000 := n0_
                  have HO_184001 := n1_
                  have HO_184002 := n2_
                  have BK177 := n3_
                  have BK178 := n4_
                  have BK179 := n5_
                  have BK183 := n6_
                  have BK189 := n7_
                  have HB := n8_
                  clear n0_ n1_ n2_ n3_ n4_ n5_ n6_ n7_ n8_
                  refine start_ (n := 21) (S := fun w' => w'.cell? ⟨gb183, 0, none⟩ = some (.slice Ao39 x184000_1.length co39) ∧ w'.cell? ⟨gb183, 1, none⟩ = some (.slice Ao40 x184001_1.length co40) ∧ w'.cell? ⟨gb183, 2, none⟩ = some (.slice Ao41 x184002_1.length co41) ∧ w'.cell? ⟨gb189, 0, none⟩ = some (.int .i64 t185) ∧ w'.cell? ⟨gb189, 1, none⟩ = some (.bool t186)) (ds := [16, 18, 20]) #[false, false, false, false, false, false, false, false, false, false, false, false, false, false, false, false, false, false, false, false, false] (by kernel_rfl) rfl rfl ⟨(blk_cell BK183.out 0).trans rfl, (blk_cell BK183.out 1).trans rfl, (blk_cell BK183.out 2).trans rfl, (blk_cell BK189.out 0).trans rfl, (blk_cell BK189.out 1).trans rfl⟩ (fun hHeld => ?_); refine with_tabW impl_Siphon_run.tab6 impl_Siphon_run.bits6 (fun HT_ HW_ => ?_)
                  generalize w42.drew = w43 at HO_184000 HO_184001 HO_184002 BK177 BK178 BK179 BK183 BK189 HB hHeld ⊢
                  refine pure_ (i := 0) (N := some 30) (v := ?_) (a' := ?_) #[true, false, false, false, false, false, false, false, false, false, false, false, false, false, false, false, false, false, false, false, false] rfl rfl (any_of HT_.out (by kernel_rfl)) (fun _ _ _ h => h) (Or.inl ⟨by rfl, ?_⟩) ?_ ?_
                  rotate_left
                  · intro w'
                    go_simp
                    with_reducible rfl
                  rotate_left
                  · simp only [Act.put, List.setIfInBounds_toArray, List.set_cons_zero, List.set_cons_succ, i64_w, i32_w]
                    rfl
                  refine pure_ (i := 5) (N := some 35) (v := ?_) (a' := ?_) #[true, false, false, false, false, true, false, false, false, false, false, false, false, false, false, false, false, false, false, false, false] rfl rfl (any_of HT_.out (by kernel_rfl)) (fun _ _ _ h => h) (Or.inl ⟨by rfl, ?_⟩) ?_ ?_
                  rotate_left
                  · intro w'
                    go_simp
                    with_reducible rfl
                  rotate_left
                  · simp only [Act.put, List.setIfInBounds_toArray, List.set_cons_zero, List.set_cons_succ, i64_w, i32_w]
                    rfl
                  refine pure_ (i := 7) (N := some 37) (v := ?_) (a' := ?_) #[true, false, false, false, false, true, false, true, false, false, false, false, false, false, false, false, false, false, false, false, false] rfl rfl (any_of HT_.out (by kernel_rfl)) (fun _ _ _ h => h) (Or.inl ⟨by rfl, ?_⟩) ?_ ?_
                  rotate_left
                  · intro w'
                    go_simp
                    with_reducible rfl
                  rotate_left
                  · simp only [Act.put, List.setIfInBounds_toArray, List.set_cons_zero, List.set_cons_succ, i64_w, i32_w]
                    rfl
                  refine pure_ (i := 10) (N := some 40) (v := ?_) (a' := ?_) #[true, false, false, false, false, true, false, true, false, false, true, false, false, false, false, false, false, false, false, false, false] rfl rfl (any_of HT_.out (by kernel_rfl)) (fun _ _ _ h => h) (Or.inl ⟨by rfl, ?_⟩) ?_ ?_
                  rotate_left
                  · intro w'
                    go_simp
                    with_reducible rfl
                  rotate_left
                  · simp only [Act.put, List.setIfInBounds_toArray, List.set_cons_zero, List.set_cons_succ, i64_w, i32_w]
                    rfl
                  refine pure_ (i := 12) (N := some 42) (v := ?_) (a' := ?_) #[true, false, false, false, false, true, false, true, false, false, true, false, true, false, false, false, false, false, false, false, false] rfl rfl (any_of HT_.out (by kernel_rfl)) (fun _ _ _ h => h) (Or.inl ⟨by rfl, ?_⟩) ?_ ?_
                  rotate_left
                  · intro w'
                    go_simp
                    with_reducible rfl
                  rotate_left
                  · simp only [Act.put, List.setIfInBounds_toArray, List.set_cons_zero, List.set_cons_succ, i64_w, i32_w]
                    rfl
                  refine take_ (i := 1) (N := some 31) (v := ?_) (a' := ?_) #[true, true, false, false, false, true, false, true, false, false, true, false, true, false, false, false, false, false, false, false, false] rfl rfl (take_ofW HT_.out HW_.out (by kernel_rfl)) (fun _ _ _ h => h) (Or.inl ⟨by rfl, ?_⟩) hHeld ?_ ?_
                  rotate_left
                  · rintro w' ⟨s0, s1, s2, s3, s4⟩
                    go_simp
                    with_reducible rfl
                  rotate_left
                  · simp only [Act.put, List.setIfInBounds_toArray, List.set_cons_zero, List.set_cons_succ, i64_w, i32_w]
                    rfl
                  refine take_ (i := 2) (N := some 32) (v := ?_) (a' := ?_) #[true, true, true, false, false, true, false, true, false, false, true, false, true, false, false, false, false, false, false, false, false] rfl rfl (take_ofW HT_.out HW_.out (by kernel_rfl)) (fun _ _ _ h => h) (Or.inl ⟨by rfl, ?_⟩) hHeld ?_ ?_
                  rotate_left
                  · rintro w' ⟨s0, s1, s2, s3, s4⟩
                    go_simp
                    with_reducible rfl
                  rotate_left
                  · simp only [Act.put, List.setIfInBounds_toArray, List.set_cons_zero, List.set_cons_succ, i64_w, i32_w]
                    rfl
                  refine take_ (i := 6) (N := some 36) (v := ?_) (a' := ?_) #[true, true, true, false, false, true, true, true, false, false, true, false, true, false, false, false, false, false, false, false, false] rfl rfl (take_ofW HT_.out HW_.out (by kernel_rfl)) (fun _ _ _ h => h) (Or.inl ⟨by rfl, ?_⟩) hHeld ?_ ?_
                  rotate_left
                  · rintro w' ⟨s0, s1, s2, s3, s4⟩
                    go_simp
                    with_reducible rfl
                  rotate_left
                  · simp only [Act.put, List.setIfInBounds_toArray, List.set_cons_zero, List.set_cons_succ, i64_w, i32_w]
                    rfl
                  refine take_ (i := 11) (N := some 41) (v := ?_) (a' := ?_) #[true, true, true, false, false, true, true, true, false, false, true, true, true, false, false, false, false, false, false, false, false] rfl rfl (take_ofW HT_.out HW_.out (by kernel_rfl)) (fun _ _ _ h => h) (Or.inl ⟨by rfl, ?_⟩) hHeld ?_ ?_
                  rotate_left
                  · rintro w' ⟨s0, s1, s2, s3, s4⟩
                    go_simp
                    with_reducible rfl
                  rotate_left
                  · simp only [Act.put, List.setIfInBounds_toArray, List.set_cons_zero, List.set_cons_succ, i64_w, i32_w]
                    rfl
                  refine join_ (σ := Value × Value × Value × Value × Value) 6 #[true, true, true, true, true, true, true, true, true, true, true, true, true, true, false, true, false, false, false, false, false] (fun s_ => [(33, s_.1), (34, s_.2.1), (38, s_.2.2.1), (39, s_.2.2.2.1), (43, s_.2.2.2.2), (45, .pointer (some ⟨gb183, 0, none⟩))]) (fun s_ w' => (w'.cell? ⟨gb183, 0, none⟩ = some (.slice Ao39 x184000_1.length co39) ∧ w'.cell? ⟨gb183, 1, none⟩ = some (.slice Ao40 x184001_1.length co40) ∧ w'.cell? ⟨gb183, 2, none⟩ = some (.slice Ao41 x184002_1.length co41) ∧ w'.cell? ⟨gb189, 0, none⟩ = some (.int .i64 t185) ∧ w'.cell? ⟨gb189, 1, none⟩ = some (.bool t186)) ∧ (Kd.R k31 31 w' w.heap.size (fun k_ => some k_ ≠ (s_.2.1 : Value).ownBlock ∧ k_ ≠ gb178 ∧ k_ ≠ gb189) s_.1 y190) ∧ (Kd.R k31 31 w' w.heap.size (fun k_ => some k_ ≠ (s_.1 : Value).ownBlock ∧ k_ ≠ gb178 ∧ k_ ≠ gb189) s_.2.1 y193) ∧ (Kd.R (Kd.int .i64) 3 w' w.heap.size (fun k_ => some k_ ≠ (s_.2.2.2.1 : Value).ownBlock ∧ some k_ ≠ (s_.2.2.2.2 : Value).ownBlock ∧ some k_ ≠ (.slice Ao41 x184002_1.length co41 : Value).ownBlock) s_.2.2.1 y196) ∧ (Kd.R (Kd.int .i64) 3 w' w.heap.size (fun k_ => some k_ ≠ (s_.2.2.1 : Value).ownBlock ∧ some k_ ≠ (s_.2.2.2.2 : Value).ownBlock ∧ some k_ ≠ (.slice Ao41 x184002_1.length co41 : Value).ownBlock) s_.2.2.2.1 y199) ∧ (Kd.R (Kd.int .i64) 3 w' w.heap.size (fun k_ => some k_ ≠ (s_.2.2.1 : Value).ownBlock ∧ some k_ ≠ (s_.2.2.2.1 : Value).ownBlock ∧ some k_ ≠ (.slice Ao41 x184002_1.length co41 : Value).ownBlock) s_.2.2.2.2 y202) ∧ (Kd.R (Kd.int .i64) 3 w' w.heap.size (fun k_ => some k_ ≠ (s_.2.2.1 : Value).ownBlock ∧ some k_ ≠ (s_.2.2.2.1 : Value).ownBlock ∧ some k_ ≠ (s_.2.2.2.2 : Value).ownBlock) (.slice Ao41 x184002_1.length co41) x184002_1) ∧ (w'.heap[gb177]? = some (.cells #[.int .i64 a0_0, .int .i64 a0_1, .int .i64 a0_2, .int .i64 a0_3] 29 (0, 0))) ∧ (w'.heap[gb178]? = some (.cells #[.int .i64 x179000_1, .bool x179001_1] 31 (0, 0))) ∧ (w'.heap[gb179]? = some (.cells #[.slice none 0 0, .slice none 0 0, .slice none 0 0] 92 (0, 0))) ∧ (w'.heap[gb183]? = some (.cells #[.slice Ao39 x184000_1.length co39, .slice Ao40 x184001_1.length co40, .slice Ao41 x184002_1.length co41] 92 (0, 0))) ∧ (w'.heap[gb189]? = some (.cells #[.int .i64 t185, .bool t186] 31 (0, 0))) ∧ (Below w.heap.size w w')) ?_ ?_
                  rotate_left
                  · intro hJ3_4_8_9_13
                    refine join_ (σ := Value × Value × Value × Value) 7 #[true, true, true, true, true, true, true, true, true, true, true, true, true, false, false, true, false, false, false, false, false] (fun s_ => [(33, s_.1), (34, s_.2.1), (38, s_.2.2.1), (39, s_.2.2.2), (45, .pointer (some ⟨gb183, 0, none⟩))]) (fun s_ w' => (w'.cell? ⟨gb183, 0, none⟩ = some (.slice Ao39 x184000_1.length co39) ∧ w'.cell? ⟨gb183, 1, none⟩ = some (.slice Ao40 x184001_1.length co40) ∧ w'.cell? ⟨gb183, 2, none⟩ = some (.slice Ao41 x184002_1.length co41) ∧ w'.cell? ⟨gb189, 0, none⟩ = some (.int .i64 t185) ∧ w'.cell? ⟨gb189, 1, none⟩ = some (.bool t186)) ∧ (Kd.R k31 31 w' w.heap.size (fun k_ => some k_ ≠ (s_.2.1 : Value).ownBlock ∧ k_ ≠ gb178 ∧ k_ ≠ gb189) s_.1 y190) ∧ (Kd.R k31 31 w' w.heap.size (fun k_ => some k_ ≠ (s_.1 : Value).ownBlock ∧ k_ ≠ gb178 ∧ k_ ≠ gb189) s_.2.1 y193) ∧ (Kd.R (Kd.int .i64) 3 w' w.heap.size (fun k_ => some k_ ≠ (s_.2.2.2 : Value).ownBlock ∧ some k_ ≠ (.slice Ao41 x184002_1.length co41 : Value).ownBlock) s_.2.2.1 y196) ∧ (Kd.R (Kd.int .i64) 3 w' w.heap.size (fun k_ => some k_ ≠ (s_.2.2.1 : Value).ownBlock ∧ some k_ ≠ (.slice Ao41 x184002_1.length co41 : Value).ownBlock) s_.2.2.2 y199) ∧ (Kd.R (Kd.int .i64) 3 w' w.heap.size (fun k_ => some k_ ≠ (s_.2.2.1 : Value).ownBlock ∧ some k_ ≠ (s_.2.2.2 : Value).ownBlock) (.slice Ao41 x184002_1.length co41) x184002_1) ∧ (w'.heap[gb177]? = some (.cells #[.int .i64 a0_0, .int .i64 a0_1, .int .i64 a0_2, .int .i64 a0_3] 29 (0, 0))) ∧ (w'.heap[gb178]? = some (.cells #[.int .i64 x179000_1, .bool x179001_1] 31 (0, 0))) ∧ (w'.heap[gb179]? = some (.cells #[.slice none 0 0, .slice none 0 0, .slice none 0 0] 92 (0, 0))) ∧ (w'.heap[gb183]? = some (.cells #[.slice Ao39 x184000_1.length co39, .slice Ao40 x184001_1.length co40, .slice Ao41 x184002_1.length co41] 92 (0, 0))) ∧ (w'.heap[gb189]? = some (.cells #[.int .i64 t185, .bool t186] 31 (0, 0))) ∧ (Below w.heap.size w w')) ?_ ?_
                    rotate_left
                    · intro hJ3_4_8_9
                      refine join_ (σ := Value × Value × Value × Value) 7 #[true, true, true, true, true, true, true, true, true, false, true, true, true, true, false, true, false, false, false, false, false] (fun s_ => [(33, s_.1), (34, s_.2.1), (38, s_.2.2.1), (43, s_.2.2.2), (45, .pointer (some ⟨gb183, 0, none⟩))]) (fun s_ w' => (w'.cell? ⟨gb183, 0, none⟩ = some (.slice Ao39 x184000_1.length co39) ∧ w'.cell? ⟨gb183, 1, none⟩ = some (.slice Ao40 x184001_1.length co40) ∧ w'.cell? ⟨gb183, 2, none⟩ = some (.slice Ao41 x184002_1.length co41) ∧ w'.cell? ⟨gb189, 0, none⟩ = some (.int .i64 t185) ∧ w'.cell? ⟨gb189, 1, none⟩ = some (.bool t186)) ∧ (Kd.R k31 31 w' w.heap.size (fun k_ => some k_ ≠ (s_.2.1 : Value).ownBlock ∧ k_ ≠ gb178 ∧ k_ ≠ gb189) s_.1 y190) ∧ (Kd.R k31 31 w' w.heap.size (fun k_ => some k_ ≠ (s_.1 : Value).ownBlock ∧ k_ ≠ gb178 ∧ k_ ≠ gb189) s_.2.1 y193) ∧ (Kd.R (Kd.int .i64) 3 w' w.heap.size (fun k_ => some k_ ≠ (s_.2.2.2 : Value).ownBlock ∧ some k_ ≠ (.slice Ao40 x184001_1.length co40 : Value).ownBlock ∧ some k_ ≠ (.slice Ao41 x184002_1.length co41 : Value).ownBlock) s_.2.2.1 y196) ∧ (Kd.R (Kd.int .i64) 3 w' w.heap.size (fun k_ => some k_ ≠ (s_.2.2.1 : Value).ownBlock ∧ some k_ ≠ (.slice Ao40 x184001_1.length co40 : Value).ownBlock ∧ some k_ ≠ (.slice Ao41 x184002_1.length co41 : Value).ownBlock) s_.2.2.2 y202) ∧ (Kd.R (Kd.int .i64) 3 w' w.heap.size (fun k_ => some k_ ≠ (s_.2.2.1 : Value).ownBlock ∧ some k_ ≠ (s_.2.2.2 : Value).ownBlock ∧ some k_ ≠ (.slice Ao41 x184002_1.length co41 : Value).ownBlock) (.slice Ao40 x184001_1.length co40) x184001_1) ∧ (Kd.R (Kd.int .i64) 3 w' w.heap.size (fun k_ => some k_ ≠ (s_.2.2.1 : Value).ownBlock ∧ some k_ ≠ (s_.2.2.2 : Value).ownBlock ∧ some k_ ≠ (.slice Ao40 x184001_1.length co40 : Value).ownBlock) (.slice Ao41 x184002_1.length co41) x184002_1) ∧ (w'.heap[gb177]? = some (.cells #[.int .i64 a0_0, .int .i64 a0_1, .int .i64 a0_2, .int .i64 a0_3] 29 (0, 0))) ∧ (w'.heap[gb178]? = some (.cells #[.int .i64 x179000_1, .bool x179001_1] 31 (0, 0))) ∧ (w'.heap[gb179]? = some (.cells #[.slice none 0 0, .slice none 0 0, .slice none 0 0] 92 (0, 0))) ∧ (w'.heap[gb183]? = some (.cells #[.slice Ao39 x184000_1.length co39, .slice Ao40 x184001_1.length co40, .slice Ao41 x184002_1.length co41] 92 (0, 0))) ∧ (w'.heap[gb189]? = some (.cells #[.int .i64 t185, .bool t186] 31 (0, 0))) ∧ (Below w.heap.size w w')) ?_ ?_
                      rotate_left
                      · intro hJ3_4_8_13
                        refine join_ (σ := Value × Value × Value) 8 #[true, true, true, true, true, true, true, true, true, false, true, true, true, false, false, true, false, false, false, false, false] (fun s_ => [(33, s_.1), (34, s_.2.1), (38, s_.2.2), (45, .pointer (some ⟨gb183, 0, none⟩))]) (fun s_ w' => (w'.cell? ⟨gb183, 0, none⟩ = some (.slice Ao39 x184000_1.length co39) ∧ w'.cell? ⟨gb183, 1, none⟩ = some (.slice Ao40 x184001_1.length co40) ∧ w'.cell? ⟨gb183, 2, none⟩ = some (.slice Ao41 x184002_1.length co41) ∧ w'.cell? ⟨gb189, 0, none⟩ = some (.int .i64 t185) ∧ w'.cell? ⟨gb189, 1, none⟩ = some (.bool t186)) ∧ (Kd.R k31 31 w' w.heap.size (fun k_ => some k_ ≠ (s_.2.1 : Value).ownBlock ∧ k_ ≠ gb178 ∧ k_ ≠ gb189) s_.1 y190) ∧ (Kd.R k31 31 w' w.heap.size (fun k_ => some k_ ≠ (s_.1 : Value).ownBlock ∧ k_ ≠ gb178 ∧ k_ ≠ gb189) s_.2.1 y193) ∧ (Kd.R (Kd.int .i64) 3 w' w.heap.size (fun k_ => some k_ ≠ (.slice Ao40 x184001_1.length co40 : Value).ownBlock ∧ some k_ ≠ (.slice Ao41 x184002_1.length co41 : Value).ownBlock) s_.2.2 y196) ∧ (Kd.R (Kd.int .i64) 3 w' w.heap.size (fun k_ => some k_ ≠ (s_.2.2 : Value).ownBlock ∧ some k_ ≠ (.slice Ao41 x184002_1.length co41 : Value).ownBlock) (.slice Ao40 x184001_1.length co40) x184001_1) ∧ (Kd.R (Kd.int .i64) 3 w' w.heap.size (fun k_ => some k_ ≠ (s_.2.2 : Value).ownBlock ∧ some k_ ≠ (.slice Ao40 x184001_1.length co40 : Value).ownBlock) (.slice Ao41 x184002_1.length co41) x184002_1) ∧ (w'.heap[gb177]? = some (.cells #[.int .i64 a0_0, .int .i64 a0_1, .int .i64 a0_2, .int .i64 a0_3] 29 (0, 0))) ∧ (w'.heap[gb178]? = some (.cells #[.int .i64 x179000_1, .bool x179001_1] 31 (0, 0))) ∧ (w'.heap[gb179]? = some (.cells #[.slice none 0 0, .slice none 0 0, .slice none 0 0] 92 (0, 0))) ∧ (w'.heap[gb183]? = some (.cells #[.slice Ao39 x184000_1.length co39, .slice Ao40 x184001_1.length co40, .slice Ao41 x184002_1.length co41] 92 (0, 0))) ∧ (w'.heap[gb189]? = some (.cells #[.int .i64 t185, .bool t186] 31 (0, 0))) ∧ (Below w.heap.size w w')) ?_ ?_
                        rotate_left
                        · intro hJ3_4_8
                          refine join_ (σ := Value × Value × Value) 8 #[true, true, true, true, true, true, true, true, false, false, true, true, true, true, false, true, false, false, false, false, false] (fun s_ => [(33, s_.1), (34, s_.2.1), (43, s_.2.2), (45, .pointer (some ⟨gb183, 0, none⟩))]) (fun s_ w' => (w'.cell? ⟨gb183, 0, none⟩ = some (.slice Ao39 x184000_1.length co39) ∧ w'.cell? ⟨gb183, 1, none⟩ = some (.slice Ao40 x184001_1.length co40) ∧ w'.cell? ⟨gb183, 2, none⟩ = some (.slice Ao41 x184002_1.length co41) ∧ w'.cell? ⟨gb189, 0, none⟩ = some (.int .i64 t185) ∧ w'.cell? ⟨gb189, 1, none⟩ = some (.bool t186)) ∧ (Kd.R k31 31 w' w.heap.size (fun k_ => some k_ ≠ (s_.2.1 : Value).ownBlock ∧ k_ ≠ gb178 ∧ k_ ≠ gb189) s_.1 y190) ∧ (Kd.R k31 31 w' w.heap.size (fun k_ => some k_ ≠ (s_.1 : Value).ownBlock ∧ k_ ≠ gb178 ∧ k_ ≠ gb189) s_.2.1 y193) ∧ (Kd.R (Kd.int .i64) 3 w' w.heap.size (fun k_ => some k_ ≠ (.slice Ao40 x184001_1.length co40 : Value).ownBlock ∧ some k_ ≠ (.slice Ao41 x184002_1.length co41 : Value).ownBlock) s_.2.2 y202) ∧ (Kd.R (Kd.int .i64) 3 w' w.heap.size (fun k_ => some k_ ≠ (s_.2.2 : Value).ownBlock ∧ some k_ ≠ (.slice Ao41 x184002_1.length co41 : Value).ownBlock) (.slice Ao40 x184001_1.length co40) x184001_1) ∧ (Kd.R (Kd.int .i64) 3 w' w.heap.size (fun k_ => some k_ ≠ (s_.2.2 : Value).ownBlock ∧ some k_ ≠ (.slice Ao40 x184001_1.length co40 : Value).ownBlock) (.slice Ao41 x184002_1.length co41) x184002_1) ∧ (w'.heap[gb177]? = some (.cells #[.int .i64 a0_0, .int .i64 a0_1, .int .i64 a0_2, .int .i64 a0_3] 29 (0, 0))) ∧ (w'.heap[gb178]? = some (.cells #[.int .i64 x179000_1, .bool x179001_1] 31 (0, 0))) ∧ (w'.heap[gb179]? = some (.cells #[.slice none 0 0, .slice none 0 0, .slice none 0 0] 92 (0, 0))) ∧ (w'.heap[gb183]? = some (.cells #[.slice Ao39 x184000_1.length co39, .slice Ao40 x184001_1.length co40, .slice Ao41 x184002_1.length co41] 92 (0, 0))) ∧ (w'.heap[gb189]? = some (.cells #[.int .i64 t185, .bool t186] 31 (0, 0))) ∧ (Below w.heap.size w w')) ?_ ?_
                          rotate_left
                          · intro hJ3_4_13
                            refine join_ (σ := Value × Value × Value) 9 #[true, true, true, true, false, true, true, true, true, false, true, true, true, true, false, false, false, false, false, false, false] (fun s_ => [(33, s_.1), (38, s_.2.1), (43, s_.2.2)]) (fun s_ w' => (w'.cell? ⟨gb183, 0, none⟩ = some (.slice Ao39 x184000_1.length co39) ∧ w'.cell? ⟨gb183, 1, none⟩ = some (.slice Ao40 x184001_1.length co40) ∧ w'.cell? ⟨gb183, 2, none⟩ = some (.slice Ao41 x184002_1.length co41) ∧ w'.cell? ⟨gb189, 0, none⟩ = some (.int .i64 t185) ∧ w'.cell? ⟨gb189, 1, none⟩ = some (.bool t186)) ∧ (Kd.R k31 31 w' w.heap.size (fun k_ => some k_ ≠ (.slice Ao39 x184000_1.length co39 : Value).ownBlock ∧ k_ ≠ gb178 ∧ k_ ≠ gb189) s_.1 y190) ∧ (Kd.R (Kd.int .i64) 3 w' w.heap.size (fun k_ => some k_ ≠ (s_.2.2 : Value).ownBlock ∧ some k_ ≠ (.slice Ao40 x184001_1.length co40 : Value).ownBlock ∧ some k_ ≠ (.slice Ao41 x184002_1.length co41 : Value).ownBlock) s_.2.1 y196) ∧ (Kd.R (Kd.int .i64) 3 w' w.heap.size (fun k_ => some k_ ≠ (s_.2.1 : Value).ownBlock ∧ some k_ ≠ (.slice Ao40 x184001_1.length co40 : Value).ownBlock ∧ some k_ ≠ (.slice Ao41 x184002_1.length co41 : Value).ownBlock) s_.2.2 y202) ∧ (Kd.R k31 31 w' w.heap.size (fun k_ => some k_ ≠ (s_.1 : Value).ownBlock ∧ k_ ≠ gb178 ∧ k_ ≠ gb189) (.slice Ao39 x184000_1.length co39) x184000_1) ∧ (Kd.R (Kd.int .i64) 3 w' w.heap.size (fun k_ => some k_ ≠ (s_.2.1 : Value).ownBlock ∧ some k_ ≠ (s_.2.2 : Value).ownBlock ∧ some k_ ≠ (.slice Ao41 x184002_1.length co41 : Value).ownBlock) (.slice Ao40 x184001_1.length co40) x184001_1) ∧ (Kd.R (Kd.int .i64) 3 w' w.heap.size (fun k_ => some k_ ≠ (s_.2.1 : Value).ownBlock ∧ some k_ ≠ (s_.2.2 : Value).ownBlock ∧ some k_ ≠ (.slice Ao40 x184001_1.length co40 : Value).ownBlock) (.slice Ao41 x184002_1.length co41) x184002_1) ∧ (w'.heap[gb177]? = some (.cells #[.int .i64 a0_0, .int .i64 a0_1, .int .i64 a0_2, .int .i64 a0_3] 29 (0, 0))) ∧ (w'.heap[gb178]? = some (.cells #[.int .i64 x179000_1, .bool x179001_1] 31 (0, 0))) ∧ (w'.heap[gb179]? = some (.cells #[.slice none 0 0, .slice none 0 0, .slice none 0 0] 92 (0, 0))) ∧ (w'.heap[gb183]? = some (.cells #[.slice Ao39 x184000_1.length co39, .slice Ao40 x184001_1.length co40, .slice Ao41 x184002_1.length co41] 92 (0, 0))) ∧ (w'.heap[gb189]? = some (.cells #[.int .i64 t185, .bool t186] 31 (0, 0))) ∧ (Below w.heap.size w w')) ?_ ?_
                            rotate_left
                            · intro hJ3_8_13
                              refine join_ (σ := Value × Value) 9 #[true, true, true, true, true, true, true, true, false, false, true, true, true, false, false, true, false, false, false, false, false] (fun s_ => [(33, s_.1), (34, s_.2), (45, .pointer (some ⟨gb183, 0, none⟩))]) (fun s_ w' => (w'.cell? ⟨gb183, 0, none⟩ = some (.slice Ao39 x184000_1.length co39) ∧ w'.cell? ⟨gb183, 1, none⟩ = some (.slice Ao40 x184001_1.length co40) ∧ w'.cell? ⟨gb183, 2, none⟩ = some (.slice Ao41 x184002_1.length co41) ∧ w'.cell? ⟨gb189, 0, none⟩ = some (.int .i64 t185) ∧ w'.cell? ⟨gb189, 1, none⟩ = some (.bool t186)) ∧ (Kd.R k31 31 w' w.heap.size (fun k_ => some k_ ≠ (s_.2 : Value).ownBlock ∧ k_ ≠ gb178 ∧ k_ ≠ gb189) s_.1 y190) ∧ (Kd.R k31 31 w' w.heap.size (fun k_ => some k_ ≠ (s_.1 : Value).ownBlock ∧ k_ ≠ gb178 ∧ k_ ≠ gb189) s_.2 y193) ∧ (Kd.R (Kd.int .i64) 3 w' w.heap.size (fun k_ => some k_ ≠ (.slice Ao41 x184002_1.length co41 : Value).ownBlock) (.slice Ao40 x184001_1.length co40) x184001_1) ∧ (Kd.R (Kd.int .i64) 3 w' w.heap.size (fun k_ => some k_ ≠ (.slice Ao40 x184001_1.length co40 : Value).ownBlock) (.slice Ao41 x184002_1.length co41) x184002_1) ∧ (w'.heap[gb177]? = some (.cells #[.int .i64 a0_0, .int .i64 a0_1, .int .i64 a0_2, .int .i64 a0_3] 29 (0, 0))) ∧ (w'.heap[gb178]? = some (.cells #[.int .i64 x179000_1, .bool x179001_1] 31 (0, 0))) ∧ (w'.heap[gb179]? = some (.cells #[.slice none 0 0, .slice none 0 0, .slice none 0 0] 92 (0, 0))) ∧ (w'.heap[gb183]? = some (.cells #[.slice Ao39 x184000_1.length co39, .slice Ao40 x184001_1.length co40, .slice Ao41 x184002_1.length co41] 92 (0, 0))) ∧ (w'.heap[gb189]? = some (.cells #[.int .i64 t185, .bool t186] 31 (0, 0))) ∧ (Below w.heap.size w w')) ?_ ?_
                              rotate_left
                              · intro hJ3_4
                                refine join_ (σ := Value × Value) 10 #[true, true, true, true, false, true, true, true, true, false, true, true, true, false, false, false, false, false, false, false, false] (fun s_ => [(33, s_.1), (38, s_.2)]) (fun s_ w' => (w'.cell? ⟨gb183, 0, none⟩ = some (.slice Ao39 x184000_1.length co39) ∧ w'.cell? ⟨gb183, 1, none⟩ = some (.slice Ao40 x184001_1.length co40) ∧ w'.cell? ⟨gb183, 2, none⟩ = some (.slice Ao41 x184002_1.length co41) ∧ w'.cell? ⟨gb189, 0, none⟩ = some (.int .i64 t185) ∧ w'.cell? ⟨gb189, 1, none⟩ = some (.bool t186)) ∧ (Kd.R k31 31 w' w.heap.size (fun k_ => some k_ ≠ (.slice Ao39 x184000_1.length co39 : Value).ownBlock ∧ k_ ≠ gb178 ∧ k_ ≠ gb189) s_.1 y190) ∧ (Kd.R (Kd.int .i64) 3 w' w.heap.size (fun k_ => some k_ ≠ (.slice Ao40 x184001_1.length co40 : Value).ownBlock ∧ some k_ ≠ (.slice Ao41 x184002_1.length co41 : Value).ownBlock) s_.2 y196) ∧ (Kd.R k31 31 w' w.heap.size (fun k_ => some k_ ≠ (s_.1 : Value).ownBlock ∧ k_ ≠ gb178 ∧ k_ ≠ gb189) (.slice Ao39 x184000_1.length co39) x184000_1) ∧ (Kd.R (Kd.int .i64) 3 w' w.heap.size (fun k_ => some k_ ≠ (s_.2 : Value).ownBlock ∧ some k_ ≠ (.slice Ao41 x184002_1.length co41 : Value).ownBlock) (.slice Ao40 x184001_1.length co40) x184001_1) ∧ (Kd.R (Kd.int .i64) 3 w' w.heap.size (fun k_ => some k_ ≠ (s_.2 : Value).ownBlock ∧ some k_ ≠ (.slice Ao40 x184001_1.length co40 : Value).ownBlock) (.slice Ao41 x184002_1.length co41) x184002_1) ∧ (w'.heap[gb177]? = some (.cells #[.int .i64 a0_0, .int .i64 a0_1, .int .i64 a0_2, .int .i64 a0_3] 29 (0, 0))) ∧ (w'.heap[gb178]? = some (.cells #[.int .i64 x179000_1, .bool x179001_1] 31 (0, 0))) ∧ (w'.heap[gb179]? = some (.cells #[.slice none 0 0, .slice none 0 0, .slice none 0 0] 92 (0, 0))) ∧ (w'.heap[gb183]? = some (.cells #[.slice Ao39 x184000_1.length co39, .slice Ao40 x184001_1.length co40, .slice Ao41 x184002_1.length co41] 92 (0, 0))) ∧ (w'.heap[gb189]? = some (.cells #[.int .i64 t185, .bool t186] 31 (0, 0))) ∧ (Below w.heap.size w w')) ?_ ?_
                                rotate_left
                                · intro hJ3_8
                                  refine join_ (σ := Value × Value) 10 #[true, true, true, true, false, true, true, true, false, false, true, true, true, true, false, false, false, false, false, false, false] (fun s_ => [(33, s_.1), (43, s_.2)]) (fun s_ w' => (w'.cell? ⟨gb183, 0, none⟩ = some (.slice Ao39 x184000_1.length co39) ∧ w'.cell? ⟨gb183, 1, none⟩ = some (.slice Ao40 x184001_1.length co40) ∧ w'.cell? ⟨gb183, 2, none⟩ = some (.slice Ao41 x184002_1.length co41) ∧ w'.cell? ⟨gb189, 0, none⟩ = some (.int .i64 t185) ∧ w'.cell? ⟨gb189, 1, none⟩ = some (.bool t186)) ∧ (Kd.R k31 31 w' w.heap.size (fun k_ => some k_ ≠ (.slice Ao39 x184000_1.length co39 : Value).ownBlock ∧ k_ ≠ gb178 ∧ k_ ≠ gb189) s_.1 y190) ∧ (Kd.R (Kd.int .i64) 3 w' w.heap.size (fun k_ => some k_ ≠ (.slice Ao40 x184001_1.length co40 : Value).ownBlock ∧ some k_ ≠ (.slice Ao41 x184002_1.length co41 : Value).ownBlock) s_.2 y202) ∧ (Kd.R k31 31 w' w.heap.size (fun k_ => some k_ ≠ (s_.1 : Value).ownBlock ∧ k_ ≠ gb178 ∧ k_ ≠ gb189) (.slice Ao39 x184000_1.length co39) x184000_1) ∧ (Kd.R (Kd.int .i64) 3 w' w.heap.size (fun k_ => some k_ ≠ (s_.2 : Value).ownBlock ∧ some k_ ≠ (.slice Ao41 x184002_1.length co41 : Value).ownBlock) (.slice Ao40 x184001_1.length co40) x184001_1) ∧ (Kd.R (Kd.int .i64) 3 w' w.heap.size (fun k_ => some k_ ≠ (s_.2 : Value).ownBlock ∧ some k_ ≠ (.slice Ao40 x184001_1.length co40 : Value).ownBlock) (.slice Ao41 x184002_1.length co41) x184002_1) ∧ (w'.heap[gb177]? = some (.cells #[.int .i64 a0_0, .int .i64 a0_1, .int .i64 a0_2, .int .i64 a0_3] 29 (0, 0))) ∧ (w'.heap[gb178]? = some (.cells #[.int .i64 x179000_1, .bool x179001_1] 31 (0, 0))) ∧ (w'.heap[gb179]? = some (.cells #[.slice none 0 0, .slice none 0 0, .slice none 0 0] 92 (0, 0))) ∧ (w'.heap[gb183]? = some (.cells #[.slice Ao39 x184000_1.length co39, .slice Ao40 x184001_1.length co40, .slice Ao41 x184002_1.length co41] 92 (0, 0))) ∧ (w'.heap[gb189]? = some (.cells #[.int .i64 t185, .bool t186] 31 (0, 0))) ∧ (Below w.heap.size w w')) ?_ ?_
                                  rotate_left
                                  · intro hJ3_13
                                    refine join_ (σ := Value × Value) 10 #[true, true, true, false, false, true, true, true, true, false, true, true, true, true, false, false, false, false, false, false, false] (fun s_ => [(38, s_.1), (43, s_.2)]) (fun s_ w' => (w'.cell? ⟨gb183, 0, none⟩ = some (.slice Ao39 x184000_1.length co39) ∧ w'.cell? ⟨gb183, 1, none⟩ = some (.slice Ao40 x184001_1.length co40) ∧ w'.cell? ⟨gb183, 2, none⟩ = some (.slice Ao41 x184002_1.length co41) ∧ w'.cell? ⟨gb189, 0, none⟩ = some (.int .i64 t185) ∧ w'.cell? ⟨gb189, 1, none⟩ = some (.bool t186)) ∧ (Kd.R (Kd.int .i64) 3 w' w.heap.size (fun k_ => some k_ ≠ (s_.2 : Value).ownBlock ∧ some k_ ≠ (.slice Ao40 x184001_1.length co40 : Value).ownBlock ∧ some k_ ≠ (.slice Ao41 x184002_1.length co41 : Value).ownBlock) s_.1 y196) ∧ (Kd.R (Kd.int .i64) 3 w' w.heap.size (fun k_ => some k_ ≠ (s_.1 : Value).ownBlock ∧ some k_ ≠ (.slice Ao40 x184001_1.length co40 : Value).ownBlock ∧ some k_ ≠ (.slice Ao41 x184002_1.length co41 : Value).ownBlock) s_.2 y202) ∧ (Kd.R k31 31 w' w.heap.size (fun k_ => k_ ≠ gb178 ∧ k_ ≠ gb189) (.slice Ao39 x184000_1.length co39) x184000_1) ∧ (Kd.R (Kd.int .i64) 3 w' w.heap.size (fun k_ => some k_ ≠ (s_.1 : Value).ownBlock ∧ some k_ ≠ (s_.2 : Value).ownBlock ∧ some k_ ≠ (.slice Ao41 x184002_1.length co41 : Value).ownBlock) (.slice Ao40 x184001_1.length co40) x184001_1) ∧ (Kd.R (Kd.int .i64) 3 w' w.heap.size (fun k_ => some k_ ≠ (s_.1 : Value).ownBlock ∧ some k_ ≠ (s_.2 : Value).ownBlock ∧ some k_ ≠ (.slice Ao40 x184001_1.length co40 : Value).ownBlock) (.slice Ao41 x184002_1.length co41) x184002_1) ∧ (w'.heap[gb177]? = some (.cells #[.int .i64 a0_0, .int .i64 a0_1, .int .i64 a0_2, .int .i64 a0_3] 29 (0, 0))) ∧ (w'.heap[gb178]? = some (.cells #[.int .i64 x179000_1, .bool x179001_1] 31 (0, 0))) ∧ (w'.heap[gb179]? = some (.cells #[.slice none 0 0, .slice none 0 0, .slice none 0 0] 92 (0, 0))) ∧ (w'.heap[gb183]? = some (.cells #[.slice Ao39 x184000_1.length co39, .slice Ao40 x184001_1.length co40, .slice Ao41 x184002_1.length co41] 92 (0, 0))) ∧ (w'.heap[gb189]? = some (.cells #[.int .i64 t185, .bool t186] 31 (0, 0))) ∧ (Below w.heap.size w w')) ?_ ?_
                                    rotate_left
                                    · intro hJ8_13
                                      refine join_ (σ := Value) 11 #[true, true, true, true, false, true, true, true, false, false, true, true, true, false, false, false, false, false, false, false, false] (fun s_ => [(33, s_)]) (fun s_ w' => (w'.cell? ⟨gb183, 0, none⟩ = some (.slice Ao39 x184000_1.length co39) ∧ w'.cell? ⟨gb183, 1, none⟩ = some (.slice Ao40 x184001_1.length co40) ∧ w'.cell? ⟨gb183, 2, none⟩ = some (.slice Ao41 x184002_1.length co41) ∧ w'.cell? ⟨gb189, 0, none⟩ = some (.int .i64 t185) ∧ w'.cell? ⟨gb189, 1, none⟩ = some (.bool t186)) ∧ (Kd.R k31 31 w' w.heap.size (fun k_ => some k_ ≠ (.slice Ao39 x184000_1.length co39 : Value).ownBlock ∧ k_ ≠ gb178 ∧ k_ ≠ gb189) s_ y190) ∧ (Kd.R k31 31 w' w.heap.size (fun k_ => some k_ ≠ (s_ : Value).ownBlock ∧ k_ ≠ gb178 ∧ k_ ≠ gb189) (.slice Ao39 x184000_1.length co39) x184000_1) ∧ (Kd.R (Kd.int .i64) 3 w' w.heap.size (fun k_ => some k_ ≠ (.slice Ao41 x184002_1.length co41 : Value).ownBlock) (.slice Ao40 x184001_1.length co40) x184001_1) ∧ (Kd.R (Kd.int .i64) 3 w' w.heap.size (fun k_ => some k_ ≠ (.slice Ao40 x184001_1.length co40 : Value).ownBlock) (.slice Ao41 x184002_1.length co41) x184002_1) ∧ (w'.heap[gb177]? = some (.cells #[.int .i64 a0_0, .int .i64 a0_1, .int .i64 a0_2, .int .i64 a0_3] 29 (0, 0))) ∧ (w'.heap[gb178]? = some (.cells #[.int .i64 x179000_1, .bool x179001_1] 31 (0, 0))) ∧ (w'.heap[gb179]? = some (.cells #[.slice none 0 0, .slice none 0 0, .slice none 0 0] 92 (0, 0))) ∧ (w'.heap[gb183]? = some (.cells #[.slice Ao39 x184000_1.length co39, .slice Ao40 x184001_1.length co40, .slice Ao41 x184002_1.length co41] 92 (0, 0))) ∧ (w'.heap[gb189]? = some (.cells #[.int .i64 t185, .bool t186] 31 (0, 0))) ∧ (Below w.heap.size w w')) ?_ ?_
                                      rotate_left
                                      · intro hJ3
                                        refine join_ (σ := Value) 11 #[true, true, true, false, false, true, true, true, true, false, true, true, true, false, false, false, false, false, false, false, false] (fun s_ => [(38, s_)]) (fun s_ w' => (w'.cell? ⟨gb183, 0, none⟩ = some (.slice Ao39 x184000_1.length co39) ∧ w'.cell? ⟨gb183, 1, none⟩ = some (.slice Ao40 x184001_1.length co40) ∧ w'.cell? ⟨gb183, 2, none⟩ = some (.slice Ao41 x184002_1.length co41) ∧ w'.cell? ⟨gb189, 0, none⟩ = some (.int .i64 t185) ∧ w'.cell? ⟨gb189, 1, none⟩ = some (.bool t186)) ∧ (Kd.R (Kd.int .i64) 3 w' w.heap.size (fun k_ => some k_ ≠ (.slice Ao40 x184001_1.length co40 : Value).ownBlock ∧ some k_ ≠ (.slice Ao41 x184002_1.length co41 : Value).ownBlock) s_ y196) ∧ (Kd.R k31 31 w' w.heap.size (fun k_ => k_ ≠ gb178 ∧ k_ ≠ gb189) (.slice Ao39 x184000_1.length co39) x184000_1) ∧ (Kd.R (Kd.int .i64) 3 w' w.heap.size (fun k_ => some k_ ≠ (s_ : Value).ownBlock ∧ some k_ ≠ (.slice Ao41 x184002_1.length co41 : Value).ownBlock) (.slice Ao40 x184001_1.length co40) x184001_1) ∧ (Kd.R (Kd.int .i64) 3 w' w.heap.size (fun k_ => some k_ ≠ (s_ : Value).ownBlock ∧ some k_ ≠ (.slice Ao40 x184001_1.length co40 : Value).ownBlock) (.slice Ao41 x184002_1.length co41) x184002_1) ∧ (w'.heap[gb177]? = some (.cells #[.int .i64 a0_0, .int .i64 a0_1, .int .i64 a0_2, .int .i64 a0_3] 29 (0, 0))) ∧ (w'.heap[gb178]? = some (.cells #[.int .i64 x179000_1, .bool x179001_1] 31 (0, 0))) ∧ (w'.heap[gb179]? = some (.cells #[.slice none 0 0, .slice none 0 0, .slice none 0 0] 92 (0, 0))) ∧ (w'.heap[gb183]? = some (.cells #[.slice Ao39 x184000_1.length co39, .slice Ao40 x184001_1.length co40, .slice Ao41 x184002_1.length co41] 92 (0, 0))) ∧ (w'.heap[gb189]? = some (.cells #[.int .i64 t185, .bool t186] 31 (0, 0))) ∧ (Below w.heap.size w w')) ?_ ?_
                                        rotate_left
                                        · intro hJ8
                                          refine join_ (σ := Value) 11 #[true, true, true, false, false, true, true, true, false, false, true, true, true, true, false, false, false, false, false, false, false] (fun s_ => [(43, s_)]) (fun s_ w' => (w'.cell? ⟨gb183, 0, none⟩ = some (.slice Ao39 x184000_1.length co39) ∧ w'.cell? ⟨gb183, 1, none⟩ = some (.slice Ao40 x184001_1.length co40) ∧ w'.cell? ⟨gb183, 2, none⟩ = some (.slice Ao41 x184002_1.length co41) ∧ w'.cell? ⟨gb189, 0, none⟩ = some (.int .i64 t185) ∧ w'.cell? ⟨gb189, 1, none⟩ = some (.bool t186)) ∧ (Kd.R (Kd.int .i64) 3 w' w.heap.size (fun k_ => some k_ ≠ (.slice Ao40 x184001_1.length co40 : Value).ownBlock ∧ some k_ ≠ (.slice Ao41 x184002_1.length co41 : Value).ownBlock) s_ y202) ∧ (Kd.R k31 31 w' w.heap.size (fun k_ => k_ ≠ gb178 ∧ k_ ≠ gb189) (.slice Ao39 x184000_1.length co39) x184000_1) ∧ (Kd.R (Kd.int .i64) 3 w' w.heap.size (fun k_ => some k_ ≠ (s_ : Value).ownBlock ∧ some k_ ≠ (.slice Ao41 x184002_1.length co41 : Value).ownBlock) (.slice Ao40 x184001_1.length co40) x184001_1) ∧ (Kd.R (Kd.int .i64) 3 w' w.heap.size (fun k_ => some k_ ≠ (s_ : Value).ownBlock ∧ some k_ ≠ (.slice Ao40 x184001_1.length co40 : Value).ownBlock) (.slice Ao41 x184002_1.length co41) x184002_1) ∧ (w'.heap[gb177]? = some (.cells #[.int .i64 a0_0, .int .i64 a0_1, .int .i64 a0_2, .int .i64 a0_3] 29 (0, 0))) ∧ (w'.heap[gb178]? = some (.cells #[.int .i64 x179000_1, .bool x179001_1] 31 (0, 0))) ∧ (w'.heap[gb179]? = some (.cells #[.slice none 0 0, .slice none 0 0, .slice none 0 0] 92 (0, 0))) ∧ (w'.heap[gb183]? = some (.cells #[.slice Ao39 x184000_1.length co39, .slice Ao40 x184001_1.length co40, .slice Ao41 x184002_1.length co41] 92 (0, 0))) ∧ (w'.heap[gb189]? = some (.cells #[.int .i64 t185, .bool t186] 31 (0, 0))) ∧ (Below w.heap.size w w')) ?_ ?_
                                          rotate_left
                                          · intro hJ13
                                            refine three_ (i := 3) (j := 8) (k := 13) (Ni := some 33) (Nj := some 38) (Nk := some 43) #[true, true, true, true, false, true, true, true, false, false, true, true, true, false, false, false, false, false, false, false, false] #[true, true, true, false, false, true, true, true, true, false, true, true, true, false, false, false, false, false, false, false, false] #[true, true, true, false, false, true, true, true, false, false, true, true, true, true, false, false, false, false, false, false, false] rfl rfl rfl rfl rfl rfl (three_of HT_.out (by kernel_rfl)) (by decide) (by decide) (by decide) (fun K hK => ?_) (fun K hK => ?_) (fun K hK => ?_)
                                            · skip
                                              refine Kd.R_lit_step k31 _ 31 ?hg (N := 33) ?hd (xs := ([(⟨t185, t186⟩ : S31)] : List (S31))) (inner := [.int .i64 t185, .bool t186]) (ok := fun _ => True) (okp := fun _ => True) ?hr ?hp (fun _ hk => hk) trivial (Below.refl _ _) (Nat.le_refl _) (by simp) ?_; (case hd => rfl); (case hg => rfl); (case hr => first | (go_simp; done) | (go_simp; rfl)); (case hp => exact (Reps.c2 (show Kd.M k31 _ _ _ (⟨t185, t186⟩ : S31) [.int .i64 t185, .bool t186] from (k31_mkM _ _ _ (⟨t185, t186⟩ : S31) )) (Reps.none _ _)))
                                              intro v191 w44 ho45 hb hg_ hnew_
                                              clear hg_ hnew_
                                              (first | rw [← Ny190.out] at ho45 | (simp only [Int.reduceToNat] at ho45; rw [← Ny190.out] at ho45))
                                              have n0_ := Aside0.mk (Kd.R_elder' (xr HO_184000.out) (Kd.R_base ho45) hb)
                                              have n1_ := Aside0.mk (Kd.R_below (xr HO_184001.out) hb)
                                              have n2_ := Aside0.mk (Kd.R_below (xr HO_184002.out) hb)
                                              have n3_ := Aside0.mk (Kd.R_lower (Kd.R_newB (Kd.R_newB (Kd.R_new' ho45 (Kd.R_lt (xr HO_184000.out))) (g := gb178) (o := .cells #[.int .i64 x179000_1, .bool x179001_1] 31 (0, 0)) (xb BK178.out)) (g := gb189) (o := .cells #[.int .i64 t185, .bool t186] 31 (0, 0)) (xb BK189.out)) (below_size (xs HB.out)))
                                              have n4_ := Aside0.mk (blk_below (g := gb177) (o := .cells #[.int .i64 a0_0, .int .i64 a0_1, .int .i64 a0_2, .int .i64 a0_3] 29 (0, 0)) (xb BK177.out) hb)
                                              have n5_ := Aside0.mk (blk_below (g := gb178) (o := .cells #[.int .i64 x179000_1, .bool x179001_1] 31 (0, 0)) (xb BK178.out) hb)
                                              have n6_ := Aside0.mk (blk_below (g := gb179) (o := .cells #[.slice none 0 0, .slice none 0 0, .slice none 0 0] 92 (0, 0)) (xb BK179.out) hb)
                                              have n7_ := Aside0.mk (blk_below (g := gb183) (o := .cells #[.slice Ao39 x184000_1.length co39, .slice Ao40 x184001_1.length co40, .slice Ao41 x184002_1.length co41] 92 (0, 0)) (xb BK183.out) hb)
                                              have n8_ := Aside0.mk (blk_below (g := gb189) (o := .cells #[.int .i64 t185, .bool t186] 31 (0, 0)) (xb BK189.out) hb)
                                              have n9_ := Aside0.mk (below_step (xs HB.out) hb)
                                              clear HO_184000
                                              clear HO_184001
                                              clear HO_184002
                                              clear BK177
                                              clear BK178
                                              clear BK179
                                              clear BK183
                                              clear BK189
                                              clear HB
                                              have HO_184000 := n0_
                                              have HO_184001 := n1_
                                              have HO_184002 := n2_
                                              have HO192 := n3_
                                              have BK177 := n4_
                                              have BK178 := n5_
                                              have BK179 := n6_
                                              have BK183 := n7_
                                              have BK189 := n8_
                                              have HB := n9_
                                              clear n0_ n1_ n2_ n3_ n4_ n5_ n6_ n7_ n8_ n9_
                                              clear hb ho45
                                              refine hK.out _ _ ⟨(blk_cell BK183.out 0).trans rfl, (blk_cell BK183.out 1).trans rfl, (blk_cell BK183.out 2).trans rfl, (blk_cell BK189.out 0).trans rfl, (blk_cell BK189.out 1).trans rfl⟩ (fun hHeld => ?_)
                                              clear hK K
                                              refine norm_ (a' := ?_) ?_ ?_
                                              rotate_left
                                              · show Act.put _ (some 33) _ = _
                                                simp only [Act.put, List.setIfInBounds_toArray, List.set_cons_zero, List.set_cons_succ, i64_w, i32_w]
                                                rfl
                                              exact norm_ (by first | (simp only [putAll, Act.put, List.setIfInBounds_toArray, List.set_cons_zero, List.set_cons_succ]; done) | (simp only [putAll, Act.put, List.setIfInBounds_toArray, List.set_cons_zero, List.set_cons_succ]; rfl)) (hJ3 (v191) _ ⟨hHeld, (by (with_reducible repeat (first | apply Kd.R_alloc | apply Kd.R_drewN | apply Kd.R_drew)); exact Kd.R_mono HO192.out (fun _ hk => ⟨hk.1.1.2, ⟨hk.1.2, hk.2⟩⟩)), (by (with_reducible repeat (first | apply Kd.R_alloc | apply Kd.R_drewN | apply Kd.R_drew)); exact Kd.R_mono HO_184000.out (fun _ hk => ⟨hk.2, ⟨hk.1.1, hk.1.2⟩⟩)), (xr HO_184001.out), (xr HO_184002.out), (xb BK177.out), (xb BK178.out), (xb BK179.out), (xb BK183.out), (xb BK189.out), (xs HB.out)⟩)
                                            · skip
                                              refine Kd.R_lit_step (Kd.int .i64) _ 3 ?hg (N := 38) ?hd (xs := ([t187] : List Int)) (inner := [.int .i64 t187]) (ok := fun _ => True) (okp := fun _ => True) ?hr ?hp (fun _ hk => hk) trivial (Below.refl _ _) (Nat.le_refl _) (by simp) ?_; (case hd => rfl); (case hg => rfl); (case hr => first | (go_simp; done) | (go_simp; rfl)); (case hp => exact (Reps.one (show Kd.M (Kd.int .i64) _ _ _ t187 [.int .i64 t187] from rfl) (Reps.none _ _)))
                                              intro v197 w44 ho45 hb hg_ hnew_
                                              clear hg_ hnew_
                                              (first | rw [← Ny196.out] at ho45 | (simp only [Int.reduceToNat] at ho45; rw [← Ny196.out] at ho45))
                                              have n0_ := Aside0.mk (Kd.R_below (xr HO_184000.out) hb)
                                              have n1_ := Aside0.mk (Kd.R_elder' (xr HO_184001.out) (Kd.R_base ho45) hb)
                                              have n2_ := Aside0.mk (Kd.R_elder' (xr HO_184002.out) (Kd.R_base ho45) hb)
                                              have n3_ := Aside0.mk (Kd.R_lower (Kd.R_new' (Kd.R_new' ho45 (Kd.R_lt (xr HO_184001.out))) (Kd.R_lt (xr HO_184002.out))) (below_size (xs HB.out)))
                                              have n4_ := Aside0.mk (blk_below (g := gb177) (o := .cells #[.int .i64 a0_0, .int .i64 a0_1, .int .i64 a0_2, .int .i64 a0_3] 29 (0, 0)) (xb BK177.out) hb)
                                              have n5_ := Aside0.mk (blk_below (g := gb178) (o := .cells #[.int .i64 x179000_1, .bool x179001_1] 31 (0, 0)) (xb BK178.out) hb)
                                              have n6_ := Aside0.mk (blk_below (g := gb179) (o := .cells #[.slice none 0 0, .slice none 0 0, .slice none 0 0] 92 (0, 0)) (xb BK179.out) hb)
                                              have n7_ := Aside0.mk (blk_below (g := gb183) (o := .cells #[.slice Ao39 x184000_1.length co39, .slice Ao40 x184001_1.length co40, .slice Ao41 x184002_1.length co41] 92 (0, 0)) (xb BK183.out) hb)
                                              have n8_ := Aside0.mk (blk_below (g := gb189) (o := .cells #[.int .i64 t185, .bool t186] 31 (0, 0)) (xb BK189.out) hb)
                                              have n9_ := Aside0.mk (below_step (xs HB.out) hb)
                                              clear HO_184000
                                              clear HO_184001
                                              clear HO_184002
                                              clear BK177
                                              clear BK178
                                              clear BK179
                                              clear BK183
                                              clear BK189
                                              clear HB
                                              have HO_184000 := n0_
                                              have HO_184001 := n1_
                                              have HO_184002 := n2_
                                              have HO198 := n3_
                                              have BK177 := n4_
                                              have BK178 := n5_
                                              have BK179 := n6_
                                              have BK183 := n7_
                                              have BK189 := n8_
                                              have HB := n9_
                                              clear n0_ n1_ n2_ n3_ n4_ n5_ n6_ n7_ n8_ n9_
                                              clear hb ho45
                                              refine hK.out _ _ ⟨(blk_cell BK183.out 0).trans rfl, (blk_cell BK183.out 1).trans rfl, (blk_cell BK183.out 2).trans rfl, (blk_cell BK189.out 0).trans rfl, (blk_cell BK189.out 1).trans rfl⟩ (fun hHeld => ?_)
                                              clear hK K
                                              refine norm_ (a' := ?_) ?_ ?_
                                              rotate_left
                                              · show Act.put _ (some 38) _ = _
                                                simp only [Act.put, List.setIfInBounds_toArray, List.set_cons_zero, List.set_cons_succ, i64_w, i32_w]
                                                rfl
                                              exact norm_ (by first | (simp only [putAll, Act.put, List.setIfInBounds_toArray, List.set_cons_zero, List.set_cons_succ]; done) | (simp only [putAll, Act.put, List.setIfInBounds_toArray, List.set_cons_zero, List.set_cons_succ]; rfl)) (hJ8 (v197) _ ⟨hHeld, (by (with_reducible repeat (first | apply Kd.R_alloc | apply Kd.R_drewN | apply Kd.R_drew)); exact Kd.R_mono HO198.out (fun _ hk => ⟨hk.1.2, hk.2⟩)), (xr HO_184000.out), (by (with_reducible repeat (first | apply Kd.R_alloc | apply Kd.R_drewN | apply Kd.R_drew)); exact Kd.R_mono HO_184001.out (fun _ hk => ⟨hk.2, hk.1⟩)), (by (with_reducible repeat (first | apply Kd.R_alloc | apply Kd.R_drewN | apply Kd.R_drew)); exact Kd.R_mono HO_184002.out (fun _ hk => ⟨hk.2, hk.1⟩)), (xb BK177.out), (xb BK178.out), (xb BK179.out), (xb BK183.out), (xb BK189.out), (xs HB.out)⟩)
                                            · skip
                                              refine Kd.R_lit_step (Kd.int .i64) _ 3 ?hg (N := 43) ?hd (xs := ([t188] : List Int)) (inner := [.int .i64 t188]) (ok := fun _ => True) (okp := fun _ => True) ?hr ?hp (fun _ hk => hk) trivial (Below.refl _ _) (Nat.le_refl _) (by simp) ?_; (case hd => rfl); (case hg => rfl); (case hr => first | (go_simp; done) | (go_simp; rfl)); (case hp => exact (Reps.one (show Kd.M (Kd.int .i64) _ _ _ t188 [.int .i64 t188] from rfl) (Reps.none _ _)))
                                              intro v203 w44 ho45 hb hg_ hnew_
                                              clear hg_ hnew_
                                              (first | rw [← Ny202.out] at ho45 | (simp only [Int.reduceToNat] at ho45; rw [← Ny202.out] at ho45))
                                              have n0_ := Aside0.mk (Kd.R_below (xr HO_184000.out) hb)
                                              have n1_ := Aside0.mk (Kd.R_elder' (xr HO_184001.out) (Kd.R_base ho45) hb)
                                              have n2_ := Aside0.mk (Kd.R_elder' (xr HO_184002.out) (Kd.R_base ho45) hb)
                                              have n3_ := Aside0.mk (Kd.R_lower (Kd.R_new' (Kd.R_new' ho45 (Kd.R_lt (xr HO_184001.out))) (Kd.R_lt (xr HO_184002.out))) (below_size (xs HB.out)))
                                              have n4_ := Aside0.mk (blk_below (g := gb177) (o := .cells #[.int .i64 a0_0, .int .i64 a0_1, .int .i64 a0_2, .int .i64 a0_3] 29 (0, 0)) (xb BK177.out) hb)
                                              have n5_ := Aside0.mk (blk_below (g := gb178) (o := .cells #[.int .i64 x179000_1, .bool x179001_1] 31 (0, 0)) (xb BK178.out) hb)
                                              have n6_ := Aside0.mk (blk_below (g := gb179) (o := .cells #[.slice none 0 0, .slice none 0 0, .slice none 0 0] 92 (0, 0)) (xb BK179.out) hb)
                                              have n7_ := Aside0.mk (blk_below (g := gb183) (o := .cells #[.slice Ao39 x184000_1.length co39, .slice Ao40 x184001_1.length co40, .slice Ao41 x184002_1.length co41] 92 (0, 0)) (xb BK183.out) hb)
                                              have n8_ := Aside0.mk (blk_below (g := gb189) (o := .cells #[.int .i64 t185, .bool t186] 31 (0, 0)) (xb BK189.out) hb)
                                              have n9_ := Aside0.mk (below_step (xs HB.out) hb)
                                              clear HO_184000
                                              clear HO_184001
                                              clear HO_184002
                                              clear BK177
                                              clear BK178
                                              clear BK179
                                              clear BK183
                                              clear BK189
                                              clear HB
                                              have HO_184000 := n0_
                                              have HO_184001 := n1_
                                              have HO_184002 := n2_
                                              have HO204 := n3_
                                              have BK177 := n4_
                                              have BK178 := n5_
                                              have BK179 := n6_
                                              have BK183 := n7_
                                              have BK189 := n8_
                                              have HB := n9_
                                              clear n0_ n1_ n2_ n3_ n4_ n5_ n6_ n7_ n8_ n9_
                                              clear hb ho45
                                              refine hK.out _ _ ⟨(blk_cell BK183.out 0).trans rfl, (blk_cell BK183.out 1).trans rfl, (blk_cell BK183.out 2).trans rfl, (blk_cell BK189.out 0).trans rfl, (blk_cell BK189.out 1).trans rfl⟩ (fun hHeld => ?_)
                                              clear hK K
                                              refine norm_ (a' := ?_) ?_ ?_
                                              rotate_left
                                              · show Act.put _ (some 43) _ = _
                                                simp only [Act.put, List.setIfInBounds_toArray, List.set_cons_zero, List.set_cons_succ, i64_w, i32_w]
                                                rfl
                                              exact norm_ (by first | (simp only [putAll, Act.put, List.setIfInBounds_toArray, List.set_cons_zero, List.set_cons_succ]; done) | (simp only [putAll, Act.put, List.setIfInBounds_toArray, List.set_cons_zero, List.set_cons_succ]; rfl)) (hJ13 (v203) _ ⟨hHeld, (by (with_reducible repeat (first | apply Kd.R_alloc | apply Kd.R_drewN | apply Kd.R_drew)); exact Kd.R_mono HO204.out (fun _ hk => ⟨hk.1.2, hk.2⟩)), (xr HO_184000.out), (by (with_reducible repeat (first | apply Kd.R_alloc | apply Kd.R_drewN | apply Kd.R_drew)); exact Kd.R_mono HO_184001.out (fun _ hk => ⟨hk.2, hk.1⟩)), (by (with_reducible repeat (first | apply Kd.R_alloc | apply Kd.R_drewN | apply Kd.R_drew)); exact Kd.R_mono HO_184002.out (fun _ hk => ⟨hk.2, hk.1⟩)), (xb BK177.out), (xb BK178.out), (xb BK179.out), (xb BK183.out), (xb BK189.out), (xs HB.out)⟩)
                                          · skip
                                            rintro v203 w46 ⟨hS_, h0_, h1_, h2_, h3_, h4_, h5_, h6_, h7_, h8_, h9_⟩
                                            have n0_ : Aside0 (Kd.R (Kd.int .i64) 3 w46 w.heap.size (fun k_ => some k_ ≠ (.slice Ao40 x184001_1.length co40 : Value).ownBlock ∧ some k_ ≠ (.slice Ao41 x184002_1.length co41 : Value).ownBlock) v203 y202) := ⟨h0_⟩
                                            have n1_ : Aside0 (Kd.R k31 31 w46 w.heap.size (fun k_ => k_ ≠ gb178 ∧ k_ ≠ gb189) (.slice Ao39 x184000_1.length co39) x184000_1) := ⟨h1_⟩
                                            have n2_ : Aside0 (Kd.R (Kd.int .i64) 3 w46 w.heap.size (fun k_ => some k_ ≠ (v203 : Value).ownBlock ∧ some k_ ≠ (.slice Ao41 x184002_1.length co41 : Value).ownBlock) (.slice Ao40 x184001_1.length co40) x184001_1) := ⟨h2_⟩
                                            have n3_ : Aside0 (Kd.R (Kd.int .i64) 3 w46 w.heap.size (fun k_ => some k_ ≠ (v203 : Value).ownBlock ∧ some k_ ≠ (.slice Ao40 x184001_1.length co40 : Value).ownBlock) (.slice Ao41 x184002_1.length co41) x184002_1) := ⟨h3_⟩
                                            have n4_ : Aside0 (w46.heap[gb177]? = some (.cells #[.int .i64 a0_0, .int .i64 a0_1, .int .i64 a0_2, .int .i64 a0_3] 29 (0, 0))) := ⟨h4_⟩
                                            have n5_ : Aside0 (w46.heap[gb178]? = some (.cells #[.int .i64 x179000_1, .bool x179001_1] 31 (0, 0))) := ⟨h5_⟩
                                            have n6_ : Aside0 (w46.heap[gb179]? = some (.cells #[.slice none 0 0, .slice none 0 0, .slice none 0 0] 92 (0, 0))) := ⟨h6_⟩
                                            have n7_ : Aside0 (w46.heap[gb183]? = some (.cells #[.slice Ao39 x184000_1.length co39, .slice Ao40 x184001_1.length co40, .slice Ao41 x184002_1.length co41] 92 (0, 0))) := ⟨h7_⟩
                                            have n8_ : Aside0 (w46.heap[gb189]? = some (.cells #[.int .i64 t185, .bool t186] 31 (0, 0))) := ⟨h8_⟩
                                            have n9_ : Aside0 (Below w.heap.size w w46) := ⟨h9_⟩
                                            clear HO_184000
                                            clear HO_184001
                                            clear HO_184002
                                            clear BK177
                                            clear BK178
                                            clear BK179
                                            clear BK183
                                            clear BK189
                                            clear HB
                                            clear h0_ h1_ h2_ h3_ h4_ h5_ h6_ h7_ h8_ h9_
                                            have HO204 := n0_
                                            have HO_184000 := n1_
                                            have HO_184001 := n2_
                                            have HO_184002 := n3_
                                            have BK177 := n4_
                                            have BK178 := n5_
                                            have BK179 := n6_
                                            have BK183 := n7_
                                            have BK189 := n8_
                                            have HB := n9_
                                            clear n0_ n1_ n2_ n3_ n4_ n5_ n6_ n7_ n8_ n9_
                                            have hHeld : w46.cell? ⟨gb183, 0, none⟩ = some (.slice Ao39 x184000_1.length co39) ∧ w46.cell? ⟨gb183, 1, none⟩ = some (.slice Ao40 x184001_1.length co40) ∧ w46.cell? ⟨gb183, 2, none⟩ = some (.slice Ao41 x184002_1.length co41) ∧ w46.cell? ⟨gb189, 0, none⟩ = some (.int .i64 t185) ∧ w46.cell? ⟨gb189, 1, none⟩ = some (.bool t186) := hS_
                                            refine norm_ (a' := ?_) ?_ ?_
                                            rotate_left
                                            · simp only [putAll, Act.put, List.setIfInBounds_toArray, List.set_cons_zero, List.set_cons_succ]
                                              rfl
                                            refine two_ (i := 3) (j := 8) (Ni := some 33) (Nj := some 38) #[true, true, true, true, false, true, true, true, false, false, true, true, true, true, false, false, false, false, false, false, false] #[true, true, true, false, false, true, true, true, true, false, true, true, true, true, false, false, false, false, false, false, false] rfl rfl rfl rfl (two_of HT_.out (by kernel_rfl)) (by decide) (by decide) (fun K hK => ?_) (fun K hK => ?_)
                                            · skip
                                              refine Kd.R_lit_step k31 _ 31 ?hg (N := 33) ?hd (xs := ([(⟨t185, t186⟩ : S31)] : List (S31))) (inner := [.int .i64 t185, .bool t186]) (ok := fun _ => True) (okp := fun _ => True) ?hr ?hp (fun _ hk => hk) trivial (Below.refl _ _) (Nat.le_refl _) (by simp) ?_; (case hd => rfl); (case hg => rfl); (case hr => first | (go_simp; done) | (go_simp; rfl)); (case hp => exact (Reps.c2 (show Kd.M k31 _ _ _ (⟨t185, t186⟩ : S31) [.int .i64 t185, .bool t186] from (k31_mkM _ _ _ (⟨t185, t186⟩ : S31) )) (Reps.none _ _)))
                                              intro v191 w47 ho48 hb hg_ hnew_
                                              clear hg_ hnew_
                                              (first | rw [← Ny190.out] at ho48 | (simp only [Int.reduceToNat] at ho48; rw [← Ny190.out] at ho48))
                                              have n0_ := Aside0.mk (Kd.R_elder' (xr HO_184000.out) (Kd.R_base ho48) hb)
                                              have n1_ := Aside0.mk (Kd.R_below (xr HO_184001.out) hb)
                                              have n2_ := Aside0.mk (Kd.R_below (xr HO_184002.out) hb)
                                              have n3_ := Aside0.mk (Kd.R_below (xr HO204.out) hb)
                                              have n4_ := Aside0.mk (Kd.R_lower (Kd.R_newB (Kd.R_newB (Kd.R_new' ho48 (Kd.R_lt (xr HO_184000.out))) (g := gb178) (o := .cells #[.int .i64 x179000_1, .bool x179001_1] 31 (0, 0)) (xb BK178.out)) (g := gb189) (o := .cells #[.int .i64 t185, .bool t186] 31 (0, 0)) (xb BK189.out)) (below_size (xs HB.out)))
                                              have n5_ := Aside0.mk (blk_below (g := gb177) (o := .cells #[.int .i64 a0_0, .int .i64 a0_1, .int .i64 a0_2, .int .i64 a0_3] 29 (0, 0)) (xb BK177.out) hb)
                                              have n6_ := Aside0.mk (blk_below (g := gb178) (o := .cells #[.int .i64 x179000_1, .bool x179001_1] 31 (0, 0)) (xb BK178.out) hb)
                                              have n7_ := Aside0.mk (blk_below (g := gb179) (o := .cells #[.slice none 0 0, .slice none 0 0, .slice none 0 0] 92 (0, 0)) (xb BK179.out) hb)
                                              have n8_ := Aside0.mk (blk_below (g := gb183) (o := .cells #[.slice Ao39 x184000_1.length co39, .slice Ao40 x184001_1.length co40, .slice Ao41 x184002_1.length co41] 92 (0, 0)) (xb BK183.out) hb)
                                              have n9_ := Aside0.mk (blk_below (g := gb189) (o := .cells #[.int .i64 t185, .bool t186] 31 (0, 0)) (xb BK189.out) hb)
                                              have n10_ := Aside0.mk (below_step (xs HB.out) hb)
                                              clear HO_184000
                                              clear HO_184001
                                              clear HO_184002
                                              clear HO204
                                              clear BK177
                                              clear BK178
                                              clear BK179
                                              clear BK183
                                              clear BK189
                                              clear HB
                                              have HO_184000 := n0_
                                              have HO_184001 := n1_
                                              have HO_184002 := n2_
                                              have HO204 := n3_
                                              have HO192 := n4_
                                              have BK177 := n5_
                                              have BK178 := n6_
                                              have BK179 := n7_
                                              have BK183 := n8_
                                              have BK189 := n9_
                                              have HB := n10_
                                              clear n0_ n1_ n2_ n3_ n4_ n5_ n6_ n7_ n8_ n9_ n10_
                                              clear hb ho48
                                              refine hK.out _ _ ⟨(blk_cell BK183.out 0).trans rfl, (blk_cell BK183.out 1).trans rfl, (blk_cell BK183.out 2).trans rfl, (blk_cell BK189.out 0).trans rfl, (blk_cell BK189.out 1).trans rfl⟩ (fun hHeld => ?_)
                                              clear hK K
                                              refine norm_ (a' := ?_) ?_ ?_
                                              rotate_left
                                              · show Act.put _ (some 33) _ = _
                                                simp only [Act.put, List.setIfInBounds_toArray, List.set_cons_zero, List.set_cons_succ, i64_w, i32_w]
                                                rfl
                                              exact norm_ (by first | (simp only [putAll, Act.put, List.setIfInBounds_toArray, List.set_cons_zero, List.set_cons_succ]; done) | (simp only [putAll, Act.put, List.setIfInBounds_toArray, List.set_cons_zero, List.set_cons_succ]; rfl)) (hJ3_13 (v191, v203) _ ⟨hHeld, (by (with_reducible repeat (first | apply Kd.R_alloc | apply Kd.R_drewN | apply Kd.R_drew)); exact Kd.R_mono HO192.out (fun _ hk => ⟨hk.1.1.2, ⟨hk.1.2, hk.2⟩⟩)), (xr HO204.out), (by (with_reducible repeat (first | apply Kd.R_alloc | apply Kd.R_drewN | apply Kd.R_drew)); exact Kd.R_mono HO_184000.out (fun _ hk => ⟨hk.2, ⟨hk.1.1, hk.1.2⟩⟩)), (xr HO_184001.out), (xr HO_184002.out), (xb BK177.out), (xb BK178.out), (xb BK179.out), (xb BK183.out), (xb BK189.out), (xs HB.out)⟩)
                                            · skip
                                              refine Kd.R_lit_step (Kd.int .i64) _ 3 ?hg (N := 38) ?hd (xs := ([t187] : List Int)) (inner := [.int .i64 t187]) (ok := fun _ => True) (okp := fun _ => True) ?hr ?hp (fun _ hk => hk) trivial (Below.refl _ _) (Nat.le_refl _) (by simp) ?_; (case hd => rfl); (case hg => rfl); (case hr => first | (go_simp; done) | (go_simp; rfl)); (case hp => exact (Reps.one (show Kd.M (Kd.int .i64) _ _ _ t187 [.int .i64 t187] from rfl) (Reps.none _ _)))
                                              intro v197 w47 ho48 hb hg_ hnew_
                                              clear hg_ hnew_
                                              (first | rw [← Ny196.out] at ho48 | (simp only [Int.reduceToNat] at ho48; rw [← Ny196.out] at ho48))
                                              have n0_ := Aside0.mk (Kd.R_below (xr HO_184000.out) hb)
                                              have n1_ := Aside0.mk (Kd.R_elder' (xr HO_184001.out) (Kd.R_base ho48) hb)
                                              have n2_ := Aside0.mk (Kd.R_elder' (xr HO_184002.out) (Kd.R_base ho48) hb)
                                              have n3_ := Aside0.mk (Kd.R_elder' (xr HO204.out) (Kd.R_base ho48) hb)
                                              have n4_ := Aside0.mk (Kd.R_lower (Kd.R_new' (Kd.R_new' (Kd.R_new' ho48 (Kd.R_lt (xr HO_184001.out))) (Kd.R_lt (xr HO_184002.out))) (Kd.R_lt (xr HO204.out))) (below_size (xs HB.out)))
                                              have n5_ := Aside0.mk (blk_below (g := gb177) (o := .cells #[.int .i64 a0_0, .int .i64 a0_1, .int .i64 a0_2, .int .i64 a0_3] 29 (0, 0)) (xb BK177.out) hb)
                                              have n6_ := Aside0.mk (blk_below (g := gb178) (o := .cells #[.int .i64 x179000_1, .bool x179001_1] 31 (0, 0)) (xb BK178.out) hb)
                                              have n7_ := Aside0.mk (blk_below (g := gb179) (o := .cells #[.slice none 0 0, .slice none 0 0, .slice none 0 0] 92 (0, 0)) (xb BK179.out) hb)
                                              have n8_ := Aside0.mk (blk_below (g := gb183) (o := .cells #[.slice Ao39 x184000_1.length co39, .slice Ao40 x184001_1.length co40, .slice Ao41 x184002_1.length co41] 92 (0, 0)) (xb BK183.out) hb)
                                              have n9_ := Aside0.mk (blk_below (g := gb189) (o := .cells #[.int .i64 t185, .bool t186] 31 (0, 0)) (xb BK189.out) hb)
                                              have n10_ := Aside0.mk (below_step (xs HB.out) hb)
                                              clear HO_184000
                                              clear HO_184001
                                              clear HO_184002
                                              clear HO204
                                              clear BK177
                                              clear BK178
                                              clear BK179
                                              clear BK183
                                              clear BK189
                                              clear HB
                                              have HO_184000 := n0_
                                              have HO_184001 := n1_
                                              have HO_184002 := n2_
                                              have HO204 := n3_
                                              have HO198 := n4_
                                              have BK177 := n5_
                                              have BK178 := n6_
                                              have BK179 := n7_
                                              have BK183 := n8_
                                              have BK189 := n9_
                                              have HB := n10_
                                              clear n0_ n1_ n2_ n3_ n4_ n5_ n6_ n7_ n8_ n9_ n10_
                                              clear hb ho48
                                              refine hK.out _ _ ⟨(blk_cell BK183.out 0).trans rfl, (blk_cell BK183.out 1).trans rfl, (blk_cell BK183.out 2).trans rfl, (blk_cell BK189.out 0).trans rfl, (blk_cell BK189.out 1).trans rfl⟩ (fun hHeld => ?_)
                                              clear hK K
                                              refine norm_ (a' := ?_) ?_ ?_
                                              rotate_left
                                              · show Act.put _ (some 38) _ = _
                                                simp only [Act.put, List.setIfInBounds_toArray, List.set_cons_zero, List.set_cons_succ, i64_w, i32_w]
                                                rfl
                                              exact norm_ (by first | (simp only [putAll, Act.put, List.setIfInBounds_toArray, List.set_cons_zero, List.set_cons_succ]; done) | (simp only [putAll, Act.put, List.setIfInBounds_toArray, List.set_cons_zero, List.set_cons_succ]; rfl)) (hJ8_13 (v197, v203) _ ⟨hHeld, (by (with_reducible repeat (first | apply Kd.R_alloc | apply Kd.R_drewN | apply Kd.R_drew)); exact Kd.R_mono HO198.out (fun _ hk => ⟨hk.2, ⟨hk.1.1.2, hk.1.2⟩⟩)), (by (with_reducible repeat (first | apply Kd.R_alloc | apply Kd.R_drewN | apply Kd.R_drew)); exact Kd.R_mono HO204.out (fun _ hk => ⟨hk.2, ⟨hk.1.1, hk.1.2⟩⟩)), (xr HO_184000.out), (by (with_reducible repeat (first | apply Kd.R_alloc | apply Kd.R_drewN | apply Kd.R_drew)); exact Kd.R_mono HO_184001.out (fun _ hk => ⟨hk.2, ⟨hk.1.1, hk.1.2⟩⟩)), (by (with_reducible repeat (first | apply Kd.R_alloc | apply Kd.R_drewN | apply Kd.R_drew)); exact Kd.R_mono HO_184002.out (fun _ hk => ⟨hk.2, ⟨hk.1.1, hk.1.2⟩⟩)), (xb BK177.out), (xb BK178.out), (xb BK179.out), (xb BK183.out), (xb BK189.out), (xs HB.out)⟩)
                                        · skip
                                          rintro v197 w46 ⟨hS_, h0_, h1_, h2_, h3_, h4_, h5_, h6_, h7_, h8_, h9_⟩
                                          have n0_ : Aside0 (Kd.R (Kd.int .i64) 3 w46 w.heap.size (fun k_ => some k_ ≠ (.slice Ao40 x184001_1.length co40 : Value).ownBlock ∧ some k_ ≠ (.slice Ao41 x184002_1.length co41 : Value).ownBlock) v197 y196) := ⟨h0_⟩
                                          have n1_ : Aside0 (Kd.R k31 31 w46 w.heap.size (fun k_ => k_ ≠ gb178 ∧ k_ ≠ gb189) (.slice Ao39 x184000_1.length co39) x184000_1) := ⟨h1_⟩
                                          have n2_ : Aside0 (Kd.R (Kd.int .i64) 3 w46 w.heap.size (fun k_ => some k_ ≠ (v197 : Value).ownBlock ∧ some k_ ≠ (.slice Ao41 x184002_1.length co41 : Value).ownBlock) (.slice Ao40 x184001_1.length co40) x184001_1) := ⟨h2_⟩
                                          have n3_ : Aside0 (Kd.R (Kd.int .i64) 3 w46 w.heap.size (fun k_ => some k_ ≠ (v197 : Value).ownBlock ∧ some k_ ≠ (.slice Ao40 x184001_1.length co40 : Value).ownBlock) (.slice Ao41 x184002_1.length co41) x184002_1) := ⟨h3_⟩
                                          have n4_ : Aside0 (w46.heap[gb177]? = some (.cells #[.int .i64 a0_0, .int .i64 a0_1, .int .i64 a0_2, .int .i64 a0_3] 29 (0, 0))) := ⟨h4_⟩
                                          have n5_ : Aside0 (w46.heap[gb178]? = some (.cells #[.int .i64 x179000_1, .bool x179001_1] 31 (0, 0))) := ⟨h5_⟩
                                          have n6_ : Aside0 (w46.heap[gb179]? = some (.cells #[.slice none 0 0, .slice none 0 0, .slice none 0 0] 92 (0, 0))) := ⟨h6_⟩
                                          have n7_ : Aside0 (w46.heap[gb183]? = some (.cells #[.slice Ao39 x184000_1.length co39, .slice Ao40 x184001_1.length co40, .slice Ao41 x184002_1.length co41] 92 (0, 0))) := ⟨h7_⟩
                                          have n8_ : Aside0 (w46.heap[gb189]? = some (.cells #[.int .i64 t185, .bool t186] 31 (0, 0))) := ⟨h8_⟩
                                          have n9_ : Aside0 (Below w.heap.size w w46) := ⟨h9_⟩
                                          clear HO_184000
                                          clear HO_184001
                                          clear HO_184002
                                          clear BK177
                                          clear BK178
                                          clear BK179
                                          clear BK183
                                          clear BK189
                                          clear HB
                                          clear h0_ h1_ h2_ h3_ h4_ h5_ h6_ h7_ h8_ h9_
                                          have HO198 := n0_
                                          have HO_184000 := n1_
                                          have HO_184001 := n2_
                                          have HO_184002 := n3_
                                          have BK177 := n4_
                                          have BK178 := n5_
                                          have BK179 := n6_
                                          have BK183 := n7_
                                          have BK189 := n8_
                                          have HB := n9_
                                          clear n0_ n1_ n2_ n3_ n4_ n5_ n6_ n7_ n8_ n9_
                                          have hHeld : w46.cell? ⟨gb183, 0, none⟩ = some (.slice Ao39 x184000_1.length co39) ∧ w46.cell? ⟨gb183, 1, none⟩ = some (.slice Ao40 x184001_1.length co40) ∧ w46.cell? ⟨gb183, 2, none⟩ = some (.slice Ao41 x184002_1.length co41) ∧ w46.cell? ⟨gb189, 0, none⟩ = some (.int .i64 t185) ∧ w46.cell? ⟨gb189, 1, none⟩ = some (.bool t186) := hS_
                                          refine norm_ (a' := ?_) ?_ ?_
                                          rotate_left
                                          · simp only [putAll, Act.put, List.setIfInBounds_toArray, List.set_cons_zero, List.set_cons_succ]
                                            rfl
                                          refine two_ (i := 3) (j := 13) (Ni := some 33) (Nj := some 43) #[true, true, true, true, false, true, true, true, true, false, true, true, true, false, false, false, false, false, false, false, false] #[true, true, true, false, false, true, true, true, true, false, true, true, true, true, false, false, false, false, false, false, false] rfl rfl rfl rfl (two_of HT_.out (by kernel_rfl)) (by decide) (by decide) (fun K hK => ?_) (fun K hK => ?_)
                                          · skip
                                            refine Kd.R_lit_step k31 _ 31 ?hg (N := 33) ?hd (xs := ([(⟨t185, t186⟩ : S31)] : List (S31))) (inner := [.int .i64 t185, .bool t186]) (ok := fun _ => True) (okp := fun _ => True) ?hr ?hp (fun _ hk => hk) trivial (Below.refl _ _) (Nat.le_refl _) (by simp) ?_; (case hd => rfl); (case hg => rfl); (case hr => first | (go_simp; done) | (go_simp; rfl)); (case hp => exact (Reps.c2 (show Kd.M k31 _ _ _ (⟨t185, t186⟩ : S31) [.int .i64 t185, .bool t186] from (k31_mkM _ _ _ (⟨t185, t186⟩ : S31) )) (Reps.none _ _)))
                                            intro v191 w47 ho48 hb hg_ hnew_
                                            clear hg_ hnew_
                                            (first | rw [← Ny190.out] at ho48 | (simp only [Int.reduceToNat] at ho48; rw [← Ny190.out] at ho48))
                                            have n0_ := Aside0.mk (Kd.R_elder' (xr HO_184000.out) (Kd.R_base ho48) hb)
                                            have n1_ := Aside0.mk (Kd.R_below (xr HO_184001.out) hb)
                                            have n2_ := Aside0.mk (Kd.R_below (xr HO_184002.out) hb)
                                            have n3_ := Aside0.mk (Kd.R_below (xr HO198.out) hb)
                                            have n4_ := Aside0.mk (Kd.R_lower (Kd.R_newB (Kd.R_newB (Kd.R_new' ho48 (Kd.R_lt (xr HO_184000.out))) (g := gb178) (o := .cells #[.int .i64 x179000_1, .bool x179001_1] 31 (0, 0)) (xb BK178.out)) (g := gb189) (o := .cells #[.int .i64 t185, .bool t186] 31 (0, 0)) (xb BK189.out)) (below_size (xs HB.out)))
                                            have n5_ := Aside0.mk (blk_below (g := gb177) (o := .cells #[.int .i64 a0_0, .int .i64 a0_1, .int .i64 a0_2, .int .i64 a0_3] 29 (0, 0)) (xb BK177.out) hb)
                                            have n6_ := Aside0.mk (blk_below (g := gb178) (o := .cells #[.int .i64 x179000_1, .bool x179001_1] 31 (0, 0)) (xb BK178.out) hb)
                                            have n7_ := Aside0.mk (blk_below (g := gb179) (o := .cells #[.slice none 0 0, .slice none 0 0, .slice none 0 0] 92 (0, 0)) (xb BK179.out) hb)
                                            have n8_ := Aside0.mk (blk_below (g := gb183) (o := .cells #[.slice Ao39 x184000_1.length co39, .slice Ao40 x184001_1.length co40, .slice Ao41 x184002_1.length co41] 92 (0, 0)) (xb BK183.out) hb)
                                            have n9_ := Aside0.mk (blk_below (g := gb189) (o := .cells #[.int .i64 t185, .bool t186] 31 (0, 0)) (xb BK189.out) hb)
                                            have n10_ := Aside0.mk (below_step (xs HB.out) hb)
                                            clear HO_184000
                                            clear HO_184001
                                            clear HO_184002
                                            clear HO198
                                            clear BK177
                                            clear BK178
                                            clear BK179
                                            clear BK183
                                            clear BK189
                                            clear HB
                                            have HO_184000 := n0_
                                            have HO_184001 := n1_
                                            have HO_184002 := n2_
                                            have HO198 := n3_
                                            have HO192 := n4_
                                            have BK177 := n5_
                                            have BK178 := n6_
                                            have BK179 := n7_
                                            have BK183 := n8_
                                            have BK189 := n9_
                                            have HB := n10_
                                            clear n0_ n1_ n2_ n3_ n4_ n5_ n6_ n7_ n8_ n9_ n10_
                                            clear hb ho48
                                            refine hK.out _ _ ⟨(blk_cell BK183.out 0).trans rfl, (blk_cell BK183.out 1).trans rfl, (blk_cell BK183.out 2).trans rfl, (blk_cell BK189.out 0).trans rfl, (blk_cell BK189.out 1).trans rfl⟩ (fun hHeld => ?_)
                                            clear hK K
                                            refine norm_ (a' := ?_) ?_ ?_
                                            rotate_left
                                            · show Act.put _ (some 33) _ = _
                                              simp only [Act.put, List.setIfInBounds_toArray, List.set_cons_zero, List.set_cons_succ, i64_w, i32_w]
                                              rfl
                                            exact norm_ (by first | (simp only [putAll, Act.put, List.setIfInBounds_toArray, List.set_cons_zero, List.set_cons_succ]; done) | (simp only [putAll, Act.put, List.setIfInBounds_toArray, List.set_cons_zero, List.set_cons_succ]; rfl)) (hJ3_8 (v191, v197) _ ⟨hHeld, (by (with_reducible repeat (first | apply Kd.R_alloc | apply Kd.R_drewN | apply Kd.R_drew)); exact Kd.R_mono HO192.out (fun _ hk => ⟨hk.1.1.2, ⟨hk.1.2, hk.2⟩⟩)), (xr HO198.out), (by (with_reducible repeat (first | apply Kd.R_alloc | apply Kd.R_drewN | apply Kd.R_drew)); exact Kd.R_mono HO_184000.out (fun _ hk => ⟨hk.2, ⟨hk.1.1, hk.1.2⟩⟩)), (xr HO_184001.out), (xr HO_184002.out), (xb BK177.out), (xb BK178.out), (xb BK179.out), (xb BK183.out), (xb BK189.out), (xs HB.out)⟩)
                                          · skip
                                            refine Kd.R_lit_step (Kd.int .i64) _ 3 ?hg (N := 43) ?hd (xs := ([t188] : List Int)) (inner := [.int .i64 t188]) (ok := fun _ => True) (okp := fun _ => True) ?hr ?hp (fun _ hk => hk) trivial (Below.refl _ _) (Nat.le_refl _) (by simp) ?_; (case hd => rfl); (case hg => rfl); (case hr => first | (go_simp; done) | (go_simp; rfl)); (case hp => exact (Reps.one (show Kd.M (Kd.int .i64) _ _ _ t188 [.int .i64 t188] from rfl) (Reps.none _ _)))
                                            intro v203 w47 ho48 hb hg_ hnew_
                                            clear hg_ hnew_
                                            (first | rw [← Ny202.out] at ho48 | (simp only [Int.reduceToNat] at ho48; rw [← Ny202.out] at ho48))
                                            have n0_ := Aside0.mk (Kd.R_below (xr HO_184000.out) hb)
                                            have n1_ := Aside0.mk (Kd.R_elder' (xr HO_184001.out) (Kd.R_base ho48) hb)
                                            have n2_ := Aside0.mk (Kd.R_elder' (xr HO_184002.out) (Kd.R_base ho48) hb)
                                            have n3_ := Aside0.mk (Kd.R_elder' (xr HO198.out) (Kd.R_base ho48) hb)
                                            have n4_ := Aside0.mk (Kd.R_lower (Kd.R_new' (Kd.R_new' (Kd.R_new' ho48 (Kd.R_lt (xr HO_184001.out))) (Kd.R_lt (xr HO_184002.out))) (Kd.R_lt (xr HO198.out))) (below_size (xs HB.out)))
                                            have n5_ := Aside0.mk (blk_below (g := gb177) (o := .cells #[.int .i64 a0_0, .int .i64 a0_1, .int .i64 a0_2, .int .i64 a0_3] 29 (0, 0)) (xb BK177.out) hb)
                                            have n6_ := Aside0.mk (blk_below (g := gb178) (o := .cells #[.int .i64 x179000_1, .bool x179001_1] 31 (0, 0)) (xb BK178.out) hb)
                                            have n7_ := Aside0.mk (blk_below (g := gb179) (o := .cells #[.slice none 0 0, .slice none 0 0, .slice none 0 0] 92 (0, 0)) (xb BK179.out) hb)
                                            have n8_ := Aside0.mk (blk_below (g := gb183) (o := .cells #[.slice Ao39 x184000_1.length co39, .slice Ao40 x184001_1.length co40, .slice Ao41 x184002_1.length co41] 92 (0, 0)) (xb BK183.out) hb)
                                            have n9_ := Aside0.mk (blk_below (g := gb189) (o := .cells #[.int .i64 t185, .bool t186] 31 (0, 0)) (xb BK189.out) hb)
                                            have n10_ := Aside0.mk (below_step (xs HB.out) hb)
                                            clear HO_184000
                                            clear HO_184001
                                            clear HO_184002
                                            clear HO198
                                            clear BK177
                                            clear BK178
                                            clear BK179
                                            clear BK183
                                            clear BK189
                                            clear HB
                                            have HO_184000 := n0_
                                            have HO_184001 := n1_
                                            have HO_184002 := n2_
                                            have HO198 := n3_
                                            have HO204 := n4_
                                            have BK177 := n5_
                                            have BK178 := n6_
                                            have BK179 := n7_
                                            have BK183 := n8_
                                            have BK189 := n9_
                                            have HB := n10_
                                            clear n0_ n1_ n2_ n3_ n4_ n5_ n6_ n7_ n8_ n9_ n10_
                                            clear hb ho48
                                            refine hK.out _ _ ⟨(blk_cell BK183.out 0).trans rfl, (blk_cell BK183.out 1).trans rfl, (blk_cell BK183.out 2).trans rfl, (blk_cell BK189.out 0).trans rfl, (blk_cell BK189.out 1).trans rfl⟩ (fun hHeld => ?_)
                                            clear hK K
                                            refine norm_ (a' := ?_) ?_ ?_
                                            rotate_left
                                            · show Act.put _ (some 43) _ = _
                                              simp only [Act.put, List.setIfInBounds_toArray, List.set_cons_zero, List.set_cons_succ, i64_w, i32_w]
                                              rfl
                                            exact norm_ (by first | (simp only [putAll, Act.put, List.setIfInBounds_toArray, List.set_cons_zero, List.set_cons_succ]; done) | (simp only [putAll, Act.put, List.setIfInBounds_toArray, List.set_cons_zero, List.set_cons_succ]; rfl)) (hJ8_13 (v197, v203) _ ⟨hHeld, (by (with_reducible repeat (first | apply Kd.R_alloc | apply Kd.R_drewN | apply Kd.R_drew)); exact Kd.R_mono HO198.out (fun _ hk => ⟨hk.2, ⟨hk.1.1, hk.1.2⟩⟩)), (by (with_reducible repeat (first | apply Kd.R_alloc | apply Kd.R_drewN | apply Kd.R_drew)); exact Kd.R_mono HO204.out (fun _ hk => ⟨hk.2, ⟨hk.1.1.2, hk.1.2⟩⟩)), (xr HO_184000.out), (by (with_reducible repeat (first | apply Kd.R_alloc | apply Kd.R_drewN | apply Kd.R_drew)); exact Kd.R_mono HO_184001.out (fun _ hk => ⟨hk.1.1, ⟨hk.2, hk.1.2⟩⟩)), (by (with_reducible repeat (first | apply Kd.R_alloc | apply Kd.R_drewN | apply Kd.R_drew)); exact Kd.R_mono HO_184002.out (fun _ hk => ⟨hk.1.1, ⟨hk.2, hk.1.2⟩⟩)), (xb BK177.out), (xb BK178.out), (xb BK179.out), (xb BK183.out), (xb BK189.out), (xs HB.out)⟩)
                                      · skip
                                        rintro v191 w46 ⟨hS_, h0_, h1_, h2_, h3_, h4_, h5_, h6_, h7_, h8_, h9_⟩
                                        have n0_ : Aside0 (Kd.R k31 31 w46 w.heap.size (fun k_ => some k_ ≠ (.slice Ao39 x184000_1.length co39 : Value).ownBlock ∧ k_ ≠ gb178 ∧ k_ ≠ gb189) v191 y190) := ⟨h0_⟩
                                        have n1_ : Aside0 (Kd.R k31 31 w46 w.heap.size (fun k_ => some k_ ≠ (v191 : Value).ownBlock ∧ k_ ≠ gb178 ∧ k_ ≠ gb189) (.slice Ao39 x184000_1.length co39) x184000_1) := ⟨h1_⟩
                                        have n2_ : Aside0 (Kd.R (Kd.int .i64) 3 w46 w.heap.size (fun k_ => some k_ ≠ (.slice Ao41 x184002_1.length co41 : Value).ownBlock) (.slice Ao40 x184001_1.length co40) x184001_1) := ⟨h2_⟩
                                        have n3_ : Aside0 (Kd.R (Kd.int .i64) 3 w46 w.heap.size (fun k_ => some k_ ≠ (.slice Ao40 x184001_1.length co40 : Value).ownBlock) (.slice Ao41 x184002_1.length co41) x184002_1) := ⟨h3_⟩
                                        have n4_ : Aside0 (w46.heap[gb177]? = some (.cells #[.int .i64 a0_0, .int .i64 a0_1, .int .i64 a0_2, .int .i64 a0_3] 29 (0, 0))) := ⟨h4_⟩
                                        have n5_ : Aside0 (w46.heap[gb178]? = some (.cells #[.int .i64 x179000_1, .bool x179001_1] 31 (0, 0))) := ⟨h5_⟩
                                        have n6_ : Aside0 (w46.heap[gb179]? = some (.cells #[.slice none 0 0, .slice none 0 0, .slice none 0 0] 92 (0, 0))) := ⟨h6_⟩
                                        have n7_ : Aside0 (w46.heap[gb183]? = some (.cells #[.slice Ao39 x184000_1.length co39, .slice Ao40 x184001_1.length co40, .slice Ao41 x184002_1.length co41] 92 (0, 0))) := ⟨h7_⟩
                                        have n8_ : Aside0 (w46.heap[gb189]? = some (.cells #[.int .i64 t185, .bool t186] 31 (0, 0))) := ⟨h8_⟩
                                        have n9_ : Aside0 (Below w.heap.size w w46) := ⟨h9_⟩
                                        clear HO_184000
                                        clear HO_184001
                                        clear HO_184002
                                        clear BK177
                                        clear BK178
                                        clear BK179
                                        clear BK183
                                        clear BK189
                                        clear HB
                                        clear h0_ h1_ h2_ h3_ h4_ h5_ h6_ h7_ h8_ h9_
                                        have HO192 := n0_
                                        have HO_184000 := n1_
                                        have HO_184001 := n2_
                                        have HO_184002 := n3_
                                        have BK177 := n4_
                                        have BK178 := n5_
                                        have BK179 := n6_
                                        have BK183 := n7_
                                        have BK189 := n8_
                                        have HB := n9_
                                        clear n0_ n1_ n2_ n3_ n4_ n5_ n6_ n7_ n8_ n9_
                                        have hHeld : w46.cell? ⟨gb183, 0, none⟩ = some (.slice Ao39 x184000_1.length co39) ∧ w46.cell? ⟨gb183, 1, none⟩ = some (.slice Ao40 x184001_1.length co40) ∧ w46.cell? ⟨gb183, 2, none⟩ = some (.slice Ao41 x184002_1.length co41) ∧ w46.cell? ⟨gb189, 0, none⟩ = some (.int .i64 t185) ∧ w46.cell? ⟨gb189, 1, none⟩ = some (.bool t186) := hS_
                                        obtain ⟨Ao48, co48, eo48⟩ := Kd.R_slice HO192.out
                                        (first | subst eo48 | (injection eo48 with f1_ f2_ f3_; have f4_ := f1_.symm; have f5_ := f3_.symm; clear f1_ f2_ f3_; subst f4_; subst f5_))
                                        refine norm_ (a' := ?_) ?_ ?_
                                        rotate_left
                                        · simp only [putAll, Act.put, List.setIfInBounds_toArray, List.set_cons_zero, List.set_cons_succ]
                                          rfl
                                        refine three_ (i := 4) (j := 8) (k := 13) (Ni := some 34) (Nj := some 38) (Nk := some 43) #[true, true, true, true, true, true, true, true, false, false, true, true, true, false, false, false, false, false, false, false, false] #[true, true, true, true, false, true, true, true, true, false, true, true, true, false, false, false, false, false, false, false, false] #[true, true, true, true, false, true, true, true, false, false, true, true, true, true, false, false, false, false, false, false, false] rfl rfl rfl rfl rfl rfl (three_of HT_.out (by kernel_rfl)) (by decide) (by decide) (by decide) (fun K hK => ?_) (fun K hK => ?_) (fun K hK => ?_)
                                        · skip
                                          refine Kd.R_append_rows_step k31 (w0 := w) w.heap.size (by rfl) (.tmp 31) (.tmp 33) 39 31 (.agg #[(.int .i64 0), (.bool false)]) 16 rfl Try.underlying39 info31 rfl (by decide) (by omega) (.slice Ao39 x184000_1.length co39) x184000_1 y190 _ _ _ (fun k_ => some k_ ≠ (.slice Ao48 y190.length co48 : Value).ownBlock ∧ k_ ≠ gb178 ∧ k_ ≠ gb189) (fun _ => False) rfl rfl ?aO ?aR (fun _ _ h => h) (fun _ h => h.elim) ?aF ?aB ?aS ?aL ?_
                                          (case aR => repeat (first | exact (Kd.R_reads' HO192.out).2.2 | (with_reducible refine Kd.C_alloc ?_ _) | (with_reducible refine Kd.C_drewN ?_ _) | (with_reducible refine Kd.C_drew ?_)))
                                          (case aB => exact (xs HB.out))
                                          (case aF => exact (fun k_ hk => ⟨Kd.fresh' (Kd.R_lt (xr HO192.out)) k_ hk, Kd.freshB (g := gb178) (o := .cells #[.int .i64 x179000_1, .bool x179001_1] 31 (0, 0)) (xb BK178.out) k_ hk, Kd.freshB (g := gb189) (o := .cells #[.int .i64 t185, .bool t186] 31 (0, 0)) (xb BK189.out) k_ hk⟩))
                                          (case aO => exact (xr HO_184000.out))
                                          (case aS => exact (below_size (xs HB.out)))
                                          (case aL => have := LMc22.out; omega)
                                          intro v194 w47 ho hb hg hat
                                          rw [← Ny193.out] at ho
                                          have n0_ := Aside0.mk (Kd.R_over' (xr HO_184001.out) (Kd.R_typed (xr HO_184000.out)) (by decide) hg)
                                          have n1_ := Aside0.mk (Kd.R_over' (xr HO_184002.out) (Kd.R_typed (xr HO_184000.out)) (by decide) hg)
                                          have n2_ := Aside0.mk (blk_grown (g := gb177) (o := .cells #[.int .i64 a0_0, .int .i64 a0_1, .int .i64 a0_2, .int .i64 a0_3] 29 (0, 0)) (xb BK177.out) hg (Kd.R_ne HO_184000.out BK177.out (by decide)))
                                          have n3_ := Aside0.mk (blk_grown (g := gb178) (o := .cells #[.int .i64 x179000_1, .bool x179001_1] 31 (0, 0)) (xb BK178.out) hg (Kd.R_away HO_184000.out (fun _ hk => hk.2.1)))
                                          have n4_ := Aside0.mk (blk_grown (g := gb179) (o := .cells #[.slice none 0 0, .slice none 0 0, .slice none 0 0] 92 (0, 0)) (xb BK179.out) hg (Kd.R_ne HO_184000.out BK179.out (by decide)))
                                          have n5_ := Aside0.mk (blk_grown (g := gb183) (o := .cells #[.slice Ao39 x184000_1.length co39, .slice Ao40 x184001_1.length co40, .slice Ao41 x184002_1.length co41] 92 (0, 0)) (xb BK183.out) hg (Kd.R_ne HO_184000.out BK183.out (by decide)))
                                          have n6_ := Aside0.mk (blk_grown (g := gb189) (o := .cells #[.int .i64 t185, .bool t186] 31 (0, 0)) (xb BK189.out) hg (Kd.R_away HO_184000.out (fun _ hk => hk.2.2)))
                                          have n7_ := Aside0.mk (Kd.R_after (ok := (fun k_ => k_ ≠ gb178 ∧ k_ ≠ gb189)) (by (with_reducible repeat (first | apply Kd.R_alloc | apply Kd.R_drewN | apply Kd.R_drew)); exact Kd.R_mono HO192.out (fun _ hk => ⟨⟨hk.2.1, hk.2.2⟩, hk.1⟩)) hg hat)
                                          have n8_ := Aside0.mk (hb)
                                          have n9_ := Aside0.mk (ho)
                                          clear HO_184001
                                          clear HO_184002
                                          clear BK177
                                          clear BK178
                                          clear BK179
                                          clear BK183
                                          clear BK189
                                          clear HO192
                                          clear HB
                                          clear HO_184000
                                          have HO_184001 := n0_
                                          have HO_184002 := n1_
                                          have BK177 := n2_
                                          have BK178 := n3_
                                          have BK179 := n4_
                                          have BK183 := n5_
                                          have BK189 := n6_
                                          have HO192 := n7_
                                          have HB := n8_
                                          have HO195 := n9_
                                          clear n0_ n1_ n2_ n3_ n4_ n5_ n6_ n7_ n8_ n9_
                                          clear ho hb hg hat
                                          refine hK.out _ _ ⟨(blk_cell BK183.out 0).trans rfl, (blk_cell BK183.out 1).trans rfl, (blk_cell BK183.out 2).trans rfl, (blk_cell BK189.out 0).trans rfl, (blk_cell BK189.out 1).trans rfl⟩ (fun hHeld => ?_)
                                          clear hK K
                                          refine norm_ (a' := ?_) ?_ ?_
                                          rotate_left
                                          · show Act.put _ (some 34) _ = _
                                            simp only [Act.put, List.setIfInBounds_toArray, List.set_cons_zero, List.set_cons_succ, i64_w, i32_w]
                                            rfl
                                          refine pure_ (i := 15) (N := some 45) (v := ?_) (a' := ?_) #[true, true, true, true, true, true, true, true, false, false, true, true, true, false, false, true, false, false, false, false, false] rfl rfl (any_of HT_.out (by kernel_rfl)) (fun _ _ _ h => h) (Or.inl ⟨by rfl, ?_⟩) ?_ ?_
                                          rotate_left
                                          · intro w'
                                            go_simp
                                            with_reducible rfl
                                          rotate_left
                                          · simp only [Act.put, List.setIfInBounds_toArray, List.set_cons_zero, List.set_cons_succ, i64_w, i32_w]
                                            rfl
                                          exact norm_ (by first | (simp only [putAll, Act.put, List.setIfInBounds_toArray, List.set_cons_zero, List.set_cons_succ]; done) | (simp only [putAll, Act.put, List.setIfInBounds_toArray, List.set_cons_zero, List.set_cons_succ]; rfl)) (hJ3_4 (.slice Ao48 y190.length co48, v194) _ ⟨hHeld, (by (with_reducible repeat (first | apply Kd.R_alloc | apply Kd.R_drewN | apply Kd.R_drew)); exact Kd.R_mono HO192.out (fun _ hk => ⟨hk.2, ⟨hk.1.1, hk.1.2⟩⟩)), (xr HO195.out), (xr HO_184001.out), (xr HO_184002.out), (xb BK177.out), (xb BK178.out), (xb BK179.out), (xb BK183.out), (xb BK189.out), (xs HB.out)⟩)
                                        · skip
                                          refine Kd.R_lit_step (Kd.int .i64) _ 3 ?hg (N := 38) ?hd (xs := ([t187] : List Int)) (inner := [.int .i64 t187]) (ok := fun _ => True) (okp := fun _ => True) ?hr ?hp (fun _ hk => hk) trivial (Below.refl _ _) (Nat.le_refl _) (by simp) ?_; (case hd => rfl); (case hg => rfl); (case hr => first | (go_simp; done) | (go_simp; rfl)); (case hp => exact (Reps.one (show Kd.M (Kd.int .i64) _ _ _ t187 [.int .i64 t187] from rfl) (Reps.none _ _)))
                                          intro v197 w47 ho48 hb hg_ hnew_
                                          clear hg_ hnew_
                                          (first | rw [← Ny196.out] at ho48 | (simp only [Int.reduceToNat] at ho48; rw [← Ny196.out] at ho48))
                                          have n0_ := Aside0.mk (Kd.R_below (xr HO_184000.out) hb)
                                          have n1_ := Aside0.mk (Kd.R_elder' (xr HO_184001.out) (Kd.R_base ho48) hb)
                                          have n2_ := Aside0.mk (Kd.R_elder' (xr HO_184002.out) (Kd.R_base ho48) hb)
                                          have n3_ := Aside0.mk (Kd.R_below (xr HO192.out) hb)
                                          have n4_ := Aside0.mk (Kd.R_lower (Kd.R_new' (Kd.R_new' ho48 (Kd.R_lt (xr HO_184001.out))) (Kd.R_lt (xr HO_184002.out))) (below_size (xs HB.out)))
                                          have n5_ := Aside0.mk (blk_below (g := gb177) (o := .cells #[.int .i64 a0_0, .int .i64 a0_1, .int .i64 a0_2, .int .i64 a0_3] 29 (0, 0)) (xb BK177.out) hb)
                                          have n6_ := Aside0.mk (blk_below (g := gb178) (o := .cells #[.int .i64 x179000_1, .bool x179001_1] 31 (0, 0)) (xb BK178.out) hb)
                                          have n7_ := Aside0.mk (blk_below (g := gb179) (o := .cells #[.slice none 0 0, .slice none 0 0, .slice none 0 0] 92 (0, 0)) (xb BK179.out) hb)
                                          have n8_ := Aside0.mk (blk_below (g := gb183) (o := .cells #[.slice Ao39 x184000_1.length co39, .slice Ao40 x184001_1.length co40, .slice Ao41 x184002_1.length co41] 92 (0, 0)) (xb BK183.out) hb)
                                          have n9_ := Aside0.mk (blk_below (g := gb189) (o := .cells #[.int .i64 t185, .bool t186] 31 (0, 0)) (xb BK189.out) hb)
                                          have n10_ := Aside0.mk (below_step (xs HB.out) hb)
                                          clear HO_184000
                                          clear HO_184001
                                          clear HO_184002
                                          clear HO192
                                          clear BK177
                                          clear BK178
                                          clear BK179
                                          clear BK183
                                          clear BK189
                                          clear HB
                                          have HO_184000 := n0_
                                          have HO_184001 := n1_
                                          have HO_184002 := n2_
                                          have HO192 := n3_
                                          have HO198 := n4_
                                          have BK177 := n5_
                                          have BK178 := n6_
                                          have BK179 := n7_
                                          have BK183 := n8_
                                          have BK189 := n9_
                                          have HB := n10_
                                          clear n0_ n1_ n2_ n3_ n4_ n5_ n6_ n7_ n8_ n9_ n10_
                                          clear hb ho48
                                          refine hK.out _ _ ⟨(blk_cell BK183.out 0).trans rfl, (blk_cell BK183.out 1).trans rfl, (blk_cell BK183.out 2).trans rfl, (blk_cell BK189.out 0).trans rfl, (blk_cell BK189.out 1).trans rfl⟩ (fun hHeld => ?_)
                                          clear hK K
                                          refine norm_ (a' := ?_) ?_ ?_
                                          rotate_left
                                          · show Act.put _ (some 38) _ = _
                                            simp only [Act.put, List.setIfInBounds_toArray, List.set_cons_zero, List.set_cons_succ, i64_w, i32_w]
                                            rfl
                                          exact norm_ (by first | (simp only [putAll, Act.put, List.setIfInBounds_toArray, List.set_cons_zero, List.set_cons_succ]; done) | (simp only [putAll, Act.put, List.setIfInBounds_toArray, List.set_cons_zero, List.set_cons_succ]; rfl)) (hJ3_8 (.slice Ao48 y190.length co48, v197) _ ⟨hHeld, (xr HO192.out), (by (with_reducible repeat (first | apply Kd.R_alloc | apply Kd.R_drewN | apply Kd.R_drew)); exact Kd.R_mono HO198.out (fun _ hk => ⟨hk.1.2, hk.2⟩)), (xr HO_184000.out), (by (with_reducible repeat (first | apply Kd.R_alloc | apply Kd.R_drewN | apply Kd.R_drew)); exact Kd.R_mono HO_184001.out (fun _ hk => ⟨hk.2, hk.1⟩)), (by (with_reducible repeat (first | apply Kd.R_alloc | apply Kd.R_drewN | apply Kd.R_drew)); exact Kd.R_mono HO_184002.out (fun _ hk => ⟨hk.2, hk.1⟩)), (xb BK177.out), (xb BK178.out), (xb BK179.out), (xb BK183.out), (xb BK189.out), (xs HB.out)⟩)
                                        · skip
                                          refine Kd.R_lit_step (Kd.int .i64) _ 3 ?hg (N := 43) ?hd (xs := ([t188] : List Int)) (inner := [.int .i64 t188]) (ok := fun _ => True) (okp := fun _ => True) ?hr ?hp (fun _ hk => hk) trivial (Below.refl _ _) (Nat.le_refl _) (by simp) ?_; (case hd => rfl); (case hg => rfl); (case hr => first | (go_simp; done) | (go_simp; rfl)); (case hp => exact (Reps.one (show Kd.M (Kd.int .i64) _ _ _ t188 [.int .i64 t188] from rfl) (Reps.none _ _)))
                                          intro v203 w47 ho48 hb hg_ hnew_
                                          clear hg_ hnew_
                                          (first | rw [← Ny202.out] at ho48 | (simp only [Int.reduceToNat] at ho48; rw [← Ny202.out] at ho48))
                                          have n0_ := Aside0.mk (Kd.R_below (xr HO_184000.out) hb)
                                          have n1_ := Aside0.mk (Kd.R_elder' (xr HO_184001.out) (Kd.R_base ho48) hb)
                                          have n2_ := Aside0.mk (Kd.R_elder' (xr HO_184002.out) (Kd.R_base ho48) hb)
                                          have n3_ := Aside0.mk (Kd.R_below (xr HO192.out) hb)
                                          have n4_ := Aside0.mk (Kd.R_lower (Kd.R_new' (Kd.R_new' ho48 (Kd.R_lt (xr HO_184001.out))) (Kd.R_lt (xr HO_184002.out))) (below_size (xs HB.out)))
                                          have n5_ := Aside0.mk (blk_below (g := gb177) (o := .cells #[.int .i64 a0_0, .int .i64 a0_1, .int .i64 a0_2, .int .i64 a0_3] 29 (0, 0)) (xb BK177.out) hb)
                                          have n6_ := Aside0.mk (blk_below (g := gb178) (o := .cells #[.int .i64 x179000_1, .bool x179001_1] 31 (0, 0)) (xb BK178.out) hb)
                                          have n7_ := Aside0.mk (blk_below (g := gb179) (o := .cells #[.slice none 0 0, .slice none 0 0, .slice none 0 0] 92 (0, 0)) (xb BK179.out) hb)
                                          have n8_ := Aside0.mk (blk_below (g := gb183) (o := .cells #[.slice Ao39 x184000_1.length co39, .slice Ao40 x184001_1.length co40, .slice Ao41 x184002_1.length co41] 92 (0, 0)) (xb BK183.out) hb)
                                          have n9_ := Aside0.mk (blk_below (g := gb189) (o := .cells #[.int .i64 t185, .bool t186] 31 (0, 0)) (xb BK189.out) hb)
                                          have n10_ := Aside0.mk (below_step (xs HB.out) hb)
                                          clear HO_184000
                                          clear HO_184001
                                          clear HO_184002
                                          clear HO192
                                          clear BK177
                                          clear BK178
                                          clear BK179
                                          clear BK183
                                          clear BK189
                                          clear HB
                                          have HO_184000 := n0_
                                          have HO_184001 := n1_
                                          have HO_184002 := n2_
                                          have HO192 := n3_
                                          have HO204 := n4_
                                          have BK177 := n5_
                                          have BK178 := n6_
                                          have BK179 := n7_
                                          have BK183 := n8_
                                          have BK189 := n9_
                                          have HB := n10_
                                          clear n0_ n1_ n2_ n3_ n4_ n5_ n6_ n7_ n8_ n9_ n10_
                                          clear hb ho48
                                          refine hK.out _ _ ⟨(blk_cell BK183.out 0).trans rfl, (blk_cell BK183.out 1).trans rfl, (blk_cell BK183.out 2).trans rfl, (blk_cell BK189.out 0).trans rfl, (blk_cell BK189.out 1).trans rfl⟩ (fun hHeld => ?_)
                                          clear hK K
                                          refine norm_ (a' := ?_) ?_ ?_
                                          rotate_left
                                          · show Act.put _ (some 43) _ = _
                                            simp only [Act.put, List.setIfInBounds_toArray, List.set_cons_zero, List.set_cons_succ, i64_w, i32_w]
                                            rfl
                                          exact norm_ (by first | (simp only [putAll, Act.put, List.setIfInBounds_toArray, List.set_cons_zero, List.set_cons_succ]; done) | (simp only [putAll, Act.put, List.setIfInBounds_toArray, List.set_cons_zero, List.set_cons_succ]; rfl)) (hJ3_13 (.slice Ao48 y190.length co48, v203) _ ⟨hHeld, (xr HO192.out), (by (with_reducible repeat (first | apply Kd.R_alloc | apply Kd.R_drewN | apply Kd.R_drew)); exact Kd.R_mono HO204.out (fun _ hk => ⟨hk.1.2, hk.2⟩)), (xr HO_184000.out), (by (with_reducible repeat (first | apply Kd.R_alloc | apply Kd.R_drewN | apply Kd.R_drew)); exact Kd.R_mono HO_184001.out (fun _ hk => ⟨hk.2, hk.1⟩)), (by (with_reducible repeat (first | apply Kd.R_alloc | apply Kd.R_drewN | apply Kd.R_drew)); exact Kd.R_mono HO_184002.out (fun _ hk => ⟨hk.2, hk.1⟩)), (xb BK177.out), (xb BK178.out), (xb BK179.out), (xb BK183.out), (xb BK189.out), (xs HB.out)⟩)
                                    · skip
                                      rintro ⟨v197, v203⟩ w48 ⟨hS_, h0_, h1_, h2_, h3_, h4_, h5_, h6_, h7_, h8_, h9_, h10_⟩
                                      have n0_ : Aside0 (Kd.R (Kd.int .i64) 3 w48 w.heap.size (fun k_ => some k_ ≠ (v203 : Value).ownBlock ∧ some k_ ≠ (.slice Ao40 x184001_1.length co40 : Value).ownBlock ∧ some k_ ≠ (.slice Ao41 x184002_1.length co41 : Value).ownBlock) v197 y196) := ⟨h0_⟩
                                      have n1_ : Aside0 (Kd.R (Kd.int .i64) 3 w48 w.heap.size (fun k_ => some k_ ≠ (v197 : Value).ownBlock ∧ some k_ ≠ (.slice Ao40 x184001_1.length co40 : Value).ownBlock ∧ some k_ ≠ (.slice Ao41 x184002_1.length co41 : Value).ownBlock) v203 y202) := ⟨h1_⟩
                                      have n2_ : Aside0 (Kd.R k31 31 w48 w.heap.size (fun k_ => k_ ≠ gb178 ∧ k_ ≠ gb189) (.slice Ao39 x184000_1.length co39) x184000_1) := ⟨h2_⟩
                                      have n3_ : Aside0 (Kd.R (Kd.int .i64) 3 w48 w.heap.size (fun k_ => some k_ ≠ (v197 : Value).ownBlock ∧ some k_ ≠ (v203 : Value).ownBlock ∧ some k_ ≠ (.slice Ao41 x184002_1.length co41 : Value).ownBlock) (.slice Ao40 x184001_1.length co40) x184001_1) := ⟨h3_⟩
                                      have n4_ : Aside0 (Kd.R (Kd.int .i64) 3 w48 w.heap.size (fun k_ => some k_ ≠ (v197 : Value).ownBlock ∧ some k_ ≠ (v203 : Value).ownBlock ∧ some k_ ≠ (.slice Ao40 x184001_1.length co40 : Value).ownBlock) (.slice Ao41 x184002_1.length co41) x184002_1) := ⟨h4_⟩
                                      have n5_ : Aside0 (w48.heap[gb177]? = some (.cells #[.int .i64 a0_0, .int .i64 a0_1, .int .i64 a0_2, .int .i64 a0_3] 29 (0, 0))) := ⟨h5_⟩
                                      have n6_ : Aside0 (w48.heap[gb178]? = some (.cells #[.int .i64 x179000_1, .bool x179001_1] 31 (0, 0))) := ⟨h6_⟩
                                      have n7_ : Aside0 (w48.heap[gb179]? = some (.cells #[.slice none 0 0, .slice none 0 0, .slice none 0 0] 92 (0, 0))) := ⟨h7_⟩
                                      have n8_ : Aside0 (w48.heap[gb183]? = some (.cells #[.slice Ao39 x184000_1.length co39, .slice Ao40 x184001_1.length co40, .slice Ao41 x184002_1.length co41] 92 (0, 0))) := ⟨h8_⟩
                                      have n9_ : Aside0 (w48.heap[gb189]? = some (.cells #[.int .i64 t185, .bool t186] 31 (0, 0))) := ⟨h9_⟩
                                      have n10_ : Aside0 (Below w.heap.size w w48) := ⟨h10_⟩
                                      clear HO_184000
                                      clear HO_184001
                                      clear HO_184002
                                      clear BK177
                                      clear BK178
                                      clear BK179
                                      clear BK183
                                      clear BK189
                                      clear HB
                                      clear h0_ h1_ h2_ h3_ h4_ h5_ h6_ h7_ h8_ h9_ h10_
                                      have HO198 := n0_
                                      have HO204 := n1_
                                      have HO_184000 := n2_
                                      have HO_184001 := n3_
                                      have HO_184002 := n4_
                                      have BK177 := n5_
                                      have BK178 := n6_
                                      have BK179 := n7_
                                      have BK183 := n8_
                                      have BK189 := n9_
                                      have HB := n10_
                                      clear n0_ n1_ n2_ n3_ n4_ n5_ n6_ n7_ n8_ n9_ n10_
                                      have hHeld : w48.cell? ⟨gb183, 0, none⟩ = some (.slice Ao39 x184000_1.length co39) ∧ w48.cell? ⟨gb183, 1, none⟩ = some (.slice Ao40 x184001_1.length co40) ∧ w48.cell? ⟨gb183, 2, none⟩ = some (.slice Ao41 x184002_1.length co41) ∧ w48.cell? ⟨gb189, 0, none⟩ = some (.int .i64 t185) ∧ w48.cell? ⟨gb189, 1, none⟩ = some (.bool t186) := hS_
                                      refine norm_ (a' := ?_) ?_ ?_
                                      rotate_left
                                      · simp only [putAll, Act.put, List.setIfInBounds_toArray, List.set_cons_zero, List.set_cons_succ]
                                        rfl
                                      refine one_ (i := 3) (N := some 33) #[true, true, true, true, false, true, true, true, true, false, true, true, true, true, false, false, false, false, false, false, false] rfl rfl (one_of HT_.out (by kernel_rfl)) (by decide) (fun K hK => ?_)
                                      refine Kd.R_lit_step k31 _ 31 ?hg (N := 33) ?hd (xs := ([(⟨t185, t186⟩ : S31)] : List (S31))) (inner := [.int .i64 t185, .bool t186]) (ok := fun _ => True) (okp := fun _ => True) ?hr ?hp (fun _ hk => hk) trivial (Below.refl _ _) (Nat.le_refl _) (by simp) ?_; (case hd => rfl); (case hg => rfl); (case hr => first | (go_simp; done) | (go_simp; rfl)); (case hp => exact (Reps.c2 (show Kd.M k31 _ _ _ (⟨t185, t186⟩ : S31) [.int .i64 t185, .bool t186] from (k31_mkM _ _ _ (⟨t185, t186⟩ : S31) )) (Reps.none _ _)))
                                      intro v191 w49 ho50 hb hg_ hnew_
                                      clear hg_ hnew_
                                      (first | rw [← Ny190.out] at ho50 | (simp only [Int.reduceToNat] at ho50; rw [← Ny190.out] at ho50))
                                      have n0_ := Aside0.mk (Kd.R_elder' (xr HO_184000.out) (Kd.R_base ho50) hb)
                                      have n1_ := Aside0.mk (Kd.R_below (xr HO_184001.out) hb)
                                      have n2_ := Aside0.mk (Kd.R_below (xr HO_184002.out) hb)
                                      have n3_ := Aside0.mk (Kd.R_below (xr HO198.out) hb)
                                      have n4_ := Aside0.mk (Kd.R_below (xr HO204.out) hb)
                                      have n5_ := Aside0.mk (Kd.R_lower (Kd.R_newB (Kd.R_newB (Kd.R_new' ho50 (Kd.R_lt (xr HO_184000.out))) (g := gb178) (o := .cells #[.int .i64 x179000_1, .bool x179001_1] 31 (0, 0)) (xb BK178.out)) (g := gb189) (o := .cells #[.int .i64 t185, .bool t186] 31 (0, 0)) (xb BK189.out)) (below_size (xs HB.out)))
                                      have n6_ := Aside0.mk (blk_below (g := gb177) (o := .cells #[.int .i64 a0_0, .int .i64 a0_1, .int .i64 a0_2, .int .i64 a0_3] 29 (0, 0)) (xb BK177.out) hb)
                                      have n7_ := Aside0.mk (blk_below (g := gb178) (o := .cells #[.int .i64 x179000_1, .bool x179001_1] 31 (0, 0)) (xb BK178.out) hb)
                                      have n8_ := Aside0.mk (blk_below (g := gb179) (o := .cells #[.slice none 0 0, .slice none 0 0, .slice none 0 0] 92 (0, 0)) (xb BK179.out) hb)
                                      have n9_ := Aside0.mk (blk_below (g := gb183) (o := .cells #[.slice Ao39 x184000_1.length co39, .slice Ao40 x184001_1.length co40, .slice Ao41 x184002_1.length co41] 92 (0, 0)) (xb BK183.out) hb)
                                      have n10_ := Aside0.mk (blk_below (g := gb189) (o := .cells #[.int .i64 t185, .bool t186] 31 (0, 0)) (xb BK189.out) hb)
                                      have n11_ := Aside0.mk (below_step (xs HB.out) hb)
                                      clear HO_184000
                                      clear HO_184001
                                      clear HO_184002
                                      clear HO198
                                      clear HO204
                                      clear BK177
                                      clear BK178
                                      clear BK179
                                      clear BK183
                                      clear BK189
                                      clear HB
                                      have HO_184000 := n0_
                                      have HO_184001 := n1_
                                      have HO_184002 := n2_
                                      have HO198 := n3_
                                      have HO204 := n4_
                                      have HO192 := n5_
                                      have BK177 := n6_
                                      have BK178 := n7_
                                      have BK179 := n8_
                                      have BK183 := n9_
                                      have BK189 := n10_
                                      have HB := n11_
                                      clear n0_ n1_ n2_ n3_ n4_ n5_ n6_ n7_ n8_ n9_ n10_ n11_
                                      clear hb ho50
                                      refine hK.out _ _ ⟨(blk_cell BK183.out 0).trans rfl, (blk_cell BK183.out 1).trans rfl, (blk_cell BK183.out 2).trans rfl, (blk_cell BK189.out 0).trans rfl, (blk_cell BK189.out 1).trans rfl⟩ (fun hHeld => ?_)
                                      clear hK K
                                      refine norm_ (a' := ?_) ?_ ?_
                                      rotate_left
                                      · show Act.put _ (some 33) _ = _
                                        simp only [Act.put, List.setIfInBounds_toArray, List.set_cons_zero, List.set_cons_succ, i64_w, i32_w]
                                        rfl
                                      exact norm_ (by first | (simp only [putAll, Act.put, List.setIfInBounds_toArray, List.set_cons_zero, List.set_cons_succ]; done) | (simp only [putAll, Act.put, List.setIfInBounds_toArray, List.set_cons_zero, List.set_cons_succ]; rfl)) (hJ3_8_13 (v191, v197, v203) _ ⟨hHeld, (by (with_reducible repeat (first | apply Kd.R_alloc | apply Kd.R_drewN | apply Kd.R_drew)); exact Kd.R_mono HO192.out (fun _ hk => ⟨hk.1.1.2, ⟨hk.1.2, hk.2⟩⟩)), (xr HO198.out), (xr HO204.out), (by (with_reducible repeat (first | apply Kd.R_alloc | apply Kd.R_drewN | apply Kd.R_drew)); exact Kd.R_mono HO_184000.out (fun _ hk => ⟨hk.2, ⟨hk.1.1, hk.1.2⟩⟩)), (xr HO_184001.out), (xr HO_184002.out), (xb BK177.out), (xb BK178.out), (xb BK179.out), (xb BK183.out), (xb BK189.out), (xs HB.out)⟩)
                                  · skip
                                    rintro ⟨v191, v203⟩ w48 ⟨hS_, h0_, h1_, h2_, h3_, h4_, h5_, h6_, h7_, h8_, h9_, h10_⟩
                                    have n0_ : Aside0 (Kd.R k31 31 w48 w.heap.size (fun k_ => some k_ ≠ (.slice Ao39 x184000_1.length co39 : Value).ownBlock ∧ k_ ≠ gb178 ∧ k_ ≠ gb189) v191 y190) := ⟨h0_⟩
                                    have n1_ : Aside0 (Kd.R (Kd.int .i64) 3 w48 w.heap.size (fun k_ => some k_ ≠ (.slice Ao40 x184001_1.length co40 : Value).ownBlock ∧ some k_ ≠ (.slice Ao41 x184002_1.length co41 : Value).ownBlock) v203 y202) := ⟨h1_⟩
                                    have n2_ : Aside0 (Kd.R k31 31 w48 w.heap.size (fun k_ => some k_ ≠ (v191 : Value).ownBlock ∧ k_ ≠ gb178 ∧ k_ ≠ gb189) (.slice Ao39 x184000_1.length co39) x184000_1) := ⟨h2_⟩
                                    have n3_ : Aside0 (Kd.R (Kd.int .i64) 3 w48 w.heap.size (fun k_ => some k_ ≠ (v203 : Value).ownBlock ∧ some k_ ≠ (.slice Ao41 x184002_1.length co41 : Value).ownBlock) (.slice Ao40 x184001_1.length co40) x184001_1) := ⟨h3_⟩
                                    have n4_ : Aside0 (Kd.R (Kd.int .i64) 3 w48 w.heap.size (fun k_ => some k_ ≠ (v203 : Value).ownBlock ∧ some k_ ≠ (.slice Ao40 x184001_1.length co40 : Value).ownBlock) (.slice Ao41 x184002_1.length co41) x184002_1) := ⟨h4_⟩
                                    have n5_ : Aside0 (w48.heap[gb177]? = some (.cells #[.int .i64 a0_0, .int .i64 a0_1, .int .i64 a0_2, .int .i64 a0_3] 29 (0, 0))) := ⟨h5_⟩
                                    have n6_ : Aside0 (w48.heap[gb178]? = some (.cells #[.int .i64 x179000_1, .bool x179001_1] 31 (0, 0))) := ⟨h6_⟩
                                    have n7_ : Aside0 (w48.heap[gb179]? = some (.cells #[.slice none 0 0, .slice none 0 0, .slice none 0 0] 92 (0, 0))) := ⟨h7_⟩
                                    have n8_ : Aside0 (w48.heap[gb183]? = some (.cells #[.slice Ao39 x184000_1.length co39, .slice Ao40 x184001_1.length co40, .slice Ao41 x184002_1.length co41] 92 (0, 0))) := ⟨h8_⟩
                                    have n9_ : Aside0 (w48.heap[gb189]? = some (.cells #[.int .i64 t185, .bool t186] 31 (0, 0))) := ⟨h9_⟩
                                    have n10_ : Aside0 (Below w.heap.size w w48) := ⟨h10_⟩
                                    clear HO_184000
                                    clear HO_184001
                                    clear HO_184002
                                    clear BK177
                                    clear BK178
                                    clear BK179
                                    clear BK183
                                    clear BK189
                                    clear HB
                                    clear h0_ h1_ h2_ h3_ h4_ h5_ h6_ h7_ h8_ h9_ h10_
                                    have HO192 := n0_
                                    have HO204 := n1_
                                    have HO_184000 := n2_
                                    have HO_184001 := n3_
                                    have HO_184002 := n4_
                                    have BK177 := n5_
                                    have BK178 := n6_
                                    have BK179 := n7_
                                    have BK183 := n8_
                                    have BK189 := n9_
                                    have HB := n10_
                                    clear n0_ n1_ n2_ n3_ n4_ n5_ n6_ n7_ n8_ n9_ n10_
                                    have hHeld : w48.cell? ⟨gb183, 0, none⟩ = some (.slice Ao39 x184000_1.length co39) ∧ w48.cell? ⟨gb183, 1, none⟩ = some (.slice Ao40 x184001_1.length co40) ∧ w48.cell? ⟨gb183, 2, none⟩ = some (.slice Ao41 x184002_1.length co41) ∧ w48.cell? ⟨gb189, 0, none⟩ = some (.int .i64 t185) ∧ w48.cell? ⟨gb189, 1, none⟩ = some (.bool t186) := hS_
                                    obtain ⟨Ao50, co50, eo50⟩ := Kd.R_slice HO192.out
                                    (first | subst eo50 | (injection eo50 with f1_ f2_ f3_; have f4_ := f1_.symm; have f5_ := f3_.symm; clear f1_ f2_ f3_; subst f4_; subst f5_))
                                    refine norm_ (a' := ?_) ?_ ?_
                                    rotate_left
                                    · simp only [putAll, Act.put, List.setIfInBounds_toArray, List.set_cons_zero, List.set_cons_succ]
                                      rfl
                                    refine two_ (i := 4) (j := 8) (Ni := some 34) (Nj := some 38) #[true, true, true, true, true, true, true, true, false, false, true, true, true, true, false, false, false, false, false, false, false] #[true, true, true, true, false, true, true, true, true, false, true, true, true, true, false, false, false, false, false, false, false] rfl rfl rfl rfl (two_of HT_.out (by kernel_rfl)) (by decide) (by decide) (fun K hK => ?_) (fun K hK => ?_)
                                    · skip
                                      refine Kd.R_append_rows_step k31 (w0 := w) w.heap.size (by rfl) (.tmp 31) (.tmp 33) 39 31 (.agg #[(.int .i64 0), (.bool false)]) 16 rfl Try.underlying39 info31 rfl (by decide) (by omega) (.slice Ao39 x184000_1.length co39) x184000_1 y190 _ _ _ (fun k_ => some k_ ≠ (.slice Ao50 y190.length co50 : Value).ownBlock ∧ k_ ≠ gb178 ∧ k_ ≠ gb189) (fun _ => False) rfl rfl ?aO ?aR (fun _ _ h => h) (fun _ h => h.elim) ?aF ?aB ?aS ?aL ?_
                                      (case aR => repeat (first | exact (Kd.R_reads' HO192.out).2.2 | (with_reducible refine Kd.C_alloc ?_ _) | (with_reducible refine Kd.C_drewN ?_ _) | (with_reducible refine Kd.C_drew ?_)))
                                      (case aB => exact (xs HB.out))
                                      (case aF => exact (fun k_ hk => ⟨Kd.fresh' (Kd.R_lt (xr HO192.out)) k_ hk, Kd.freshB (g := gb178) (o := .cells #[.int .i64 x179000_1, .bool x179001_1] 31 (0, 0)) (xb BK178.out) k_ hk, Kd.freshB (g := gb189) (o := .cells #[.int .i64 t185, .bool t186] 31 (0, 0)) (xb BK189.out) k_ hk⟩))
                                      (case aO => exact (xr HO_184000.out))
                                      (case aS => exact (below_size (xs HB.out)))
                                      (case aL => have := LMc22.out; omega)
                                      intro v194 w49 ho hb hg hat
                                      rw [← Ny193.out] at ho
                                      have n0_ := Aside0.mk (Kd.R_over' (xr HO_184001.out) (Kd.R_typed (xr HO_184000.out)) (by decide) hg)
                                      have n1_ := Aside0.mk (Kd.R_over' (xr HO_184002.out) (Kd.R_typed (xr HO_184000.out)) (by decide) hg)
                                      have n2_ := Aside0.mk (blk_grown (g := gb177) (o := .cells #[.int .i64 a0_0, .int .i64 a0_1, .int .i64 a0_2, .int .i64 a0_3] 29 (0, 0)) (xb BK177.out) hg (Kd.R_ne HO_184000.out BK177.out (by decide)))
                                      have n3_ := Aside0.mk (blk_grown (g := gb178) (o := .cells #[.int .i64 x179000_1, .bool x179001_1] 31 (0, 0)) (xb BK178.out) hg (Kd.R_away HO_184000.out (fun _ hk => hk.2.1)))
                                      have n4_ := Aside0.mk (blk_grown (g := gb179) (o := .cells #[.slice none 0 0, .slice none 0 0, .slice none 0 0] 92 (0, 0)) (xb BK179.out) hg (Kd.R_ne HO_184000.out BK179.out (by decide)))
                                      have n5_ := Aside0.mk (blk_grown (g := gb183) (o := .cells #[.slice Ao39 x184000_1.length co39, .slice Ao40 x184001_1.length co40, .slice Ao41 x184002_1.length co41] 92 (0, 0)) (xb BK183.out) hg (Kd.R_ne HO_184000.out BK183.out (by decide)))
                                      have n6_ := Aside0.mk (blk_grown (g := gb189) (o := .cells #[.int .i64 t185, .bool t186] 31 (0, 0)) (xb BK189.out) hg (Kd.R_away HO_184000.out (fun _ hk => hk.2.2)))
                                      have n7_ := Aside0.mk (Kd.R_after (ok := (fun k_ => k_ ≠ gb178 ∧ k_ ≠ gb189)) (by (with_reducible repeat (first | apply Kd.R_alloc | apply Kd.R_drewN | apply Kd.R_drew)); exact Kd.R_mono HO192.out (fun _ hk => ⟨⟨hk.2.1, hk.2.2⟩, hk.1⟩)) hg hat)
                                      have n8_ := Aside0.mk (Kd.R_over' (xr HO204.out) (Kd.R_typed (xr HO_184000.out)) (by decide) hg)
                                      have n9_ := Aside0.mk (hb)
                                      have n10_ := Aside0.mk (ho)
                                      clear HO_184001
                                      clear HO_184002
                                      clear BK177
                                      clear BK178
                                      clear BK179
                                      clear BK183
                                      clear BK189
                                      clear HO192
                                      clear HO204
                                      clear HB
                                      clear HO_184000
                                      have HO_184001 := n0_
                                      have HO_184002 := n1_
                                      have BK177 := n2_
                                      have BK178 := n3_
                                      have BK179 := n4_
                                      have BK183 := n5_
                                      have BK189 := n6_
                                      have HO192 := n7_
                                      have HO204 := n8_
                                      have HB := n9_
                                      have HO195 := n10_
                                      clear n0_ n1_ n2_ n3_ n4_ n5_ n6_ n7_ n8_ n9_ n10_
                                      clear ho hb hg hat
                                      refine hK.out _ _ ⟨(blk_cell BK183.out 0).trans rfl, (blk_cell BK183.out 1).trans rfl, (blk_cell BK183.out 2).trans rfl, (blk_cell BK189.out 0).trans rfl, (blk_cell BK189.out 1).trans rfl⟩ (fun hHeld => ?_)
                                      clear hK K
                                      refine norm_ (a' := ?_) ?_ ?_
                                      rotate_left
                                      · show Act.put _ (some 34) _ = _
                                        simp only [Act.put, List.setIfInBounds_toArray, List.set_cons_zero, List.set_cons_succ, i64_w, i32_w]
                                        rfl
                                      refine pure_ (i := 15) (N := some 45) (v := ?_) (a' := ?_) #[true, true, true, true, true, true, true, true, false, false, true, true, true, true, false, true, false, false, false, false, false] rfl rfl (any_of HT_.out (by kernel_rfl)) (fun _ _ _ h => h) (Or.inl ⟨by rfl, ?_⟩) ?_ ?_
                                      rotate_left
                                      · intro w'
                                        go_simp
                                        with_reducible rfl
                                      rotate_left
                                      · simp only [Act.put, List.setIfInBounds_toArray, List.set_cons_zero, List.set_cons_succ, i64_w, i32_w]
                                        rfl
                                      exact norm_ (by first | (simp only [putAll, Act.put, List.setIfInBounds_toArray, List.set_cons_zero, List.set_cons_succ]; done) | (simp only [putAll, Act.put, List.setIfInBounds_toArray, List.set_cons_zero, List.set_cons_succ]; rfl)) (hJ3_4_13 (.slice Ao50 y190.length co50, v194, v203) _ ⟨hHeld, (by (with_reducible repeat (first | apply Kd.R_alloc | apply Kd.R_drewN | apply Kd.R_drew)); exact Kd.R_mono HO192.out (fun _ hk => ⟨hk.2, ⟨hk.1.1, hk.1.2⟩⟩)), (xr HO195.out), (xr HO204.out), (xr HO_184001.out), (xr HO_184002.out), (xb BK177.out), (xb BK178.out), (xb BK179.out), (xb BK183.out), (xb BK189.out), (xs HB.out)⟩)
                                    · skip
                                      refine Kd.R_lit_step (Kd.int .i64) _ 3 ?hg (N := 38) ?hd (xs := ([t187] : List Int)) (inner := [.int .i64 t187]) (ok := fun _ => True) (okp := fun _ => True) ?hr ?hp (fun _ hk => hk) trivial (Below.refl _ _) (Nat.le_refl _) (by simp) ?_; (case hd => rfl); (case hg => rfl); (case hr => first | (go_simp; done) | (go_simp; rfl)); (case hp => exact (Reps.one (show Kd.M (Kd.int .i64) _ _ _ t187 [.int .i64 t187] from rfl) (Reps.none _ _)))
                                      intro v197 w49 ho50 hb hg_ hnew_
                                      clear hg_ hnew_
                                      (first | rw [← Ny196.out] at ho50 | (simp only [Int.reduceToNat] at ho50; rw [← Ny196.out] at ho50))
                                      have n0_ := Aside0.mk (Kd.R_below (xr HO_184000.out) hb)
                                      have n1_ := Aside0.mk (Kd.R_elder' (xr HO_184001.out) (Kd.R_base ho50) hb)
                                      have n2_ := Aside0.mk (Kd.R_elder' (xr HO_184002.out) (Kd.R_base ho50) hb)
                                      have n3_ := Aside0.mk (Kd.R_below (xr HO192.out) hb)
                                      have n4_ := Aside0.mk (Kd.R_elder' (xr HO204.out) (Kd.R_base ho50) hb)
                                      have n5_ := Aside0.mk (Kd.R_lower (Kd.R_new' (Kd.R_new' (Kd.R_new' ho50 (Kd.R_lt (xr HO_184001.out))) (Kd.R_lt (xr HO_184002.out))) (Kd.R_lt (xr HO204.out))) (below_size (xs HB.out)))
                                      have n6_ := Aside0.mk (blk_below (g := gb177) (o := .cells #[.int .i64 a0_0, .int .i64 a0_1, .int .i64 a0_2, .int .i64 a0_3] 29 (0, 0)) (xb BK177.out) hb)
                                      have n7_ := Aside0.mk (blk_below (g := gb178) (o := .cells #[.int .i64 x179000_1, .bool x179001_1] 31 (0, 0)) (xb BK178.out) hb)
                                      have n8_ := Aside0.mk (blk_below (g := gb179) (o := .cells #[.slice none 0 0, .slice none 0 0, .slice none 0 0] 92 (0, 0)) (xb BK179.out) hb)
                                      have n9_ := Aside0.mk (blk_below (g := gb183) (o := .cells #[.slice Ao39 x184000_1.length co39, .slice Ao40 x184001_1.length co40, .slice Ao41 x184002_1.length co41] 92 (0, 0)) (xb BK183.out) hb)
                                      have n10_ := Aside0.mk (blk_below (g := gb189) (o := .cells #[.int .i64 t185, .bool t186] 31 (0, 0)) (xb BK189.out) hb)
                                      have n11_ := Aside0.mk (below_step (xs HB.out) hb)
                                      clear HO_184000
                                      clear HO_184001
                                      clear HO_184002
                                      clear HO192
                                      clear HO204
                                      clear BK177
                                      clear BK178
                                      clear BK179
                                      clear BK183
                                      clear BK189
                                      clear HB
                                      have HO_184000 := n0_
                                      have HO_184001 := n1_
                                      have HO_184002 := n2_
                                      have HO192 := n3_
                                      have HO204 := n4_
                                      have HO198 := n5_
                                      have BK177 := n6_
                                      have BK178 := n7_
                                      have BK179 := n8_
                                      have BK183 := n9_
                                      have BK189 := n10_
                                      have HB := n11_
                                      clear n0_ n1_ n2_ n3_ n4_ n5_ n6_ n7_ n8_ n9_ n10_ n11_
                                      clear hb ho50
                                      refine hK.out _ _ ⟨(blk_cell BK183.out 0).trans rfl, (blk_cell BK183.out 1).trans rfl, (blk_cell BK183.out 2).trans rfl, (blk_cell BK189.out 0).trans rfl, (blk_cell BK189.out 1).trans rfl⟩ (fun hHeld => ?_)
                                      clear hK K
                                      refine norm_ (a' := ?_) ?_ ?_
                                      rotate_left
                                      · show Act.put _ (some 38) _ = _
                                        simp only [Act.put, List.setIfInBounds_toArray, List.set_cons_zero, List.set_cons_succ, i64_w, i32_w]
                                        rfl
                                      exact norm_ (by first | (simp only [putAll, Act.put, List.setIfInBounds_toArray, List.set_cons_zero, List.set_cons_succ]; done) | (simp only [putAll, Act.put, List.setIfInBounds_toArray, List.set_cons_zero, List.set_cons_succ]; rfl)) (hJ3_8_13 (.slice Ao50 y190.length co50, v197, v203) _ ⟨hHeld, (xr HO192.out), (by (with_reducible repeat (first | apply Kd.R_alloc | apply Kd.R_drewN | apply Kd.R_drew)); exact Kd.R_mono HO198.out (fun _ hk => ⟨hk.2, ⟨hk.1.1.2, hk.1.2⟩⟩)), (by (with_reducible repeat (first | apply Kd.R_alloc | apply Kd.R_drewN | apply Kd.R_drew)); exact Kd.R_mono HO204.out (fun _ hk => ⟨hk.2, ⟨hk.1.1, hk.1.2⟩⟩)), (xr HO_184000.out), (by (with_reducible repeat (first | apply Kd.R_alloc | apply Kd.R_drewN | apply Kd.R_drew)); exact Kd.R_mono HO_184001.out (fun _ hk => ⟨hk.2, ⟨hk.1.1, hk.1.2⟩⟩)), (by (with_reducible repeat (first | apply Kd.R_alloc | apply Kd.R_drewN | apply Kd.R_drew)); exact Kd.R_mono HO_184002.out (fun _ hk => ⟨hk.2, ⟨hk.1.1, hk.1.2⟩⟩)), (xb BK177.out), (xb BK178.out), (xb BK179.out), (xb BK183.out), (xb BK189.out), (xs HB.out)⟩)
                                · skip
                                  rintro ⟨v191, v197⟩ w48 ⟨hS_, h0_, h1_, h2_, h3_, h4_, h5_, h6_, h7_, h8_, h9_, h10_⟩
                                  have n0_ : Aside0 (Kd.R k31 31 w48 w.heap.size (fun k_ => some k_ ≠ (.slice Ao39 x184000_1.length co39 : Value).ownBlock ∧ k_ ≠ gb178 ∧ k_ ≠ gb189) v191 y190) := ⟨h0_⟩
                                  have n1_ : Aside0 (Kd.R (Kd.int .i64) 3 w48 w.heap.size (fun k_ => some k_ ≠ (.slice Ao40 x184001_1.length co40 : Value).ownBlock ∧ some k_ ≠ (.slice Ao41 x184002_1.length co41 : Value).ownBlock) v197 y196) := ⟨h1_⟩
                                  have n2_ : Aside0 (Kd.R k31 31 w48 w.heap.size (fun k_ => some k_ ≠ (v191 : Value).ownBlock ∧ k_ ≠ gb178 ∧ k_ ≠ gb189) (.slice Ao39 x184000_1.length co39) x184000_1) := ⟨h2_⟩
                                  have n3_ : Aside0 (Kd.R (Kd.int .i64) 3 w48 w.heap.size (fun k_ => some k_ ≠ (v197 : Value).ownBlock ∧ some k_ ≠ (.slice Ao41 x184002_1.length co41 : Value).ownBlock) (.slice Ao40 x184001_1.length co40) x184001_1) := ⟨h3_⟩
                                  have n4_ : Aside0 (Kd.R (Kd.int .i64) 3 w48 w.heap.size (fun k_ => some k_ ≠ (v197 : Value).ownBlock ∧ some k_ ≠ (.slice Ao40 x184001_1.length co40 : Value).ownBlock) (.slice Ao41 x184002_1.length co41) x184002_1) := ⟨h4_⟩
                                  have n5_ : Aside0 (w48.heap[gb177]? = some (.cells #[.int .i64 a0_0, .int .i64 a0_1, .int .i64 a0_2, .int .i64 a0_3] 29 (0, 0))) := ⟨h5_⟩
                                  have n6_ : Aside0 (w48.heap[gb178]? = some (.cells #[.int .i64 x179000_1, .bool x179001_1] 31 (0, 0))) := ⟨h6_⟩
                                  have n7_ : Aside0 (w48.heap[gb179]? = some (.cells #[.slice none 0 0, .slice none 0 0, .slice none 0 0] 92 (0, 0))) := ⟨h7_⟩
                                  have n8_ : Aside0 (w48.heap[gb183]? = some (.cells #[.slice Ao39 x184000_1.length co39, .slice Ao40 x184001_1.length co40, .slice Ao41 x184002_1.length co41] 92 (0, 0))) := ⟨h8_⟩
                                  have n9_ : Aside0 (w48.heap[gb189]? = some (.cells #[.int .i64 t185, .bool t186] 31 (0, 0))) := ⟨h9_⟩
                                  have n10_ : Aside0 (Below w.heap.size w w48) := ⟨h10_⟩
                                  clear HO_184000
                                  clear HO_184001
                                  clear HO_184002
                                  clear BK177
                                  clear BK178
                                  clear BK179
                                  clear BK183
                                  clear BK189
                                  clear HB
                                  clear h0_ h1_ h2_ h3_ h4_ h5_ h6_ h7_ h8_ h9_ h10_
                                  have HO192 := n0_
                                  have HO198 := n1_
                                  have HO_184000 := n2_
                                  have HO_184001 := n3_
                                  have HO_184002 := n4_
                                  have BK177 := n5_
                                  have BK178 := n6_
                                  have BK179 := n7_
                                  have BK183 := n8_
                                  have BK189 := n9_
                                  have HB := n10_
                                  clear n0_ n1_ n2_ n3_ n4_ n5_ n6_ n7_ n8_ n9_ n10_
                                  have hHeld : w48.cell? ⟨gb183, 0, none⟩ = some (.slice Ao39 x184000_1.length co39) ∧ w48.cell? ⟨gb183, 1, none⟩ = some (.slice Ao40 x184001_1.length co40) ∧ w48.cell? ⟨gb183, 2, none⟩ = some (.slice Ao41 x184002_1.length co41) ∧ w48.cell? ⟨gb189, 0, none⟩ = some (.int .i64 t185) ∧ w48.cell? ⟨gb189, 1, none⟩ = some (.bool t186) := hS_
                                  obtain ⟨Ao50, co50, eo50⟩ := Kd.R_slice HO192.out
                                  (first | subst eo50 | (injection eo50 with f1_ f2_ f3_; have f4_ := f1_.symm; have f5_ := f3_.symm; clear f1_ f2_ f3_; subst f4_; subst f5_))
                                  refine norm_ (a' := ?_) ?_ ?_
                                  rotate_left
                                  · simp only [putAll, Act.put, List.setIfInBounds_toArray, List.set_cons_zero, List.set_cons_succ]
                                    rfl
                                  refine two_ (i := 4) (j := 13) (Ni := some 34) (Nj := some 43) #[true, true, true, true, true, true, true, true, true, false, true, true, true, false, false, false, false, false, false, false, false] #[true, true, true, true, false, true, true, true, true, false, true, true, true, true, false, false, false, false, false, false, false] rfl rfl rfl rfl (two_of HT_.out (by kernel_rfl)) (by decide) (by decide) (fun K hK => ?_) (fun K hK => ?_)
                                  · skip
                                    refine Kd.R_append_rows_step k31 (w0 := w) w.heap.size (by rfl) (.tmp 31) (.tmp 33) 39 31 (.agg #[(.int .i64 0), (.bool false)]) 16 rfl Try.underlying39 info31 rfl (by decide) (by omega) (.slice Ao39 x184000_1.length co39) x184000_1 y190 _ _ _ (fun k_ => some k_ ≠ (.slice Ao50 y190.length co50 : Value).ownBlock ∧ k_ ≠ gb178 ∧ k_ ≠ gb189) (fun _ => False) rfl rfl ?aO ?aR (fun _ _ h => h) (fun _ h => h.elim) ?aF ?aB ?aS ?aL ?_
                                    (case aR => repeat (first | exact (Kd.R_reads' HO192.out).2.2 | (with_reducible refine Kd.C_alloc ?_ _) | (with_reducible refine Kd.C_drewN ?_ _) | (with_reducible refine Kd.C_drew ?_)))
                                    (case aB => exact (xs HB.out))
                                    (case aF => exact (fun k_ hk => ⟨Kd.fresh' (Kd.R_lt (xr HO192.out)) k_ hk, Kd.freshB (g := gb178) (o := .cells #[.int .i64 x179000_1, .bool x179001_1] 31 (0, 0)) (xb BK178.out) k_ hk, Kd.freshB (g := gb189) (o := .cells #[.int .i64 t185, .bool t186] 31 (0, 0)) (xb BK189.out) k_ hk⟩))
                                    (case aO => exact (xr HO_184000.out))
                                    (case aS => exact (below_size (xs HB.out)))
                                    (case aL => have := LMc22.out; omega)
                                    intro v194 w49 ho hb hg hat
                                    rw [← Ny193.out] at ho
                                    have n0_ := Aside0.mk (Kd.R_over' (xr HO_184001.out) (Kd.R_typed (xr HO_184000.out)) (by decide) hg)
                                    have n1_ := Aside0.mk (Kd.R_over' (xr HO_184002.out) (Kd.R_typed (xr HO_184000.out)) (by decide) hg)
                                    have n2_ := Aside0.mk (blk_grown (g := gb177) (o := .cells #[.int .i64 a0_0, .int .i64 a0_1, .int .i64 a0_2, .int .i64 a0_3] 29 (0, 0)) (xb BK177.out) hg (Kd.R_ne HO_184000.out BK177.out (by decide)))
                                    have n3_ := Aside0.mk (blk_grown (g := gb178) (o := .cells #[.int .i64 x179000_1, .bool x179001_1] 31 (0, 0)) (xb BK178.out) hg (Kd.R_away HO_184000.out (fun _ hk => hk.2.1)))
                                    have n4_ := Aside0.mk (blk_grown (g := gb179) (o := .cells #[.slice none 0 0, .slice none 0 0, .slice none 0 0] 92 (0, 0)) (xb BK179.out) hg (Kd.R_ne HO_184000.out BK179.out (by decide)))
                                    have n5_ := Aside0.mk (blk_grown (g := gb183) (o := .cells #[.slice Ao39 x184000_1.length co39, .slice Ao40 x184001_1.length co40, .slice Ao41 x184002_1.length co41] 92 (0, 0)) (xb BK183.out) hg (Kd.R_ne HO_184000.out BK183.out (by decide)))
                                    have n6_ := Aside0.mk (blk_grown (g := gb189) (o := .cells #[.int .i64 t185, .bool t186] 31 (0, 0)) (xb BK189.out) hg (Kd.R_away HO_184000.out (fun _ hk => hk.2.2)))
                                    have n7_ := Aside0.mk (Kd.R_after (ok := (fun k_ => k_ ≠ gb178 ∧ k_ ≠ gb189)) (by (with_reducible repeat (first | apply Kd.R_alloc | apply Kd.R_drewN | apply Kd.R_drew)); exact Kd.R_mono HO192.out (fun _ hk => ⟨⟨hk.2.1, hk.2.2⟩, hk.1⟩)) hg hat)
                                    have n8_ := Aside0.mk (Kd.R_over' (xr HO198.out) (Kd.R_typed (xr HO_184000.out)) (by decide) hg)
                                    have n9_ := Aside0.mk (hb)
                                    have n10_ := Aside0.mk (ho)
                                    clear HO_184001
                                    clear HO_184002
                                    clear BK177
                                    clear BK178
                                    clear BK179
                                    clear BK183
                                    clear BK189
                                    clear HO192
                                    clear HO198
                                    clear HB
                                    clear HO_184000
                                    have HO_184001 := n0_
                                    have HO_184002 := n1_
                                    have BK177 := n2_
                                    have BK178 := n3_
                                    have BK179 := n4_
                                    have BK183 := n5_
                                    have BK189 := n6_
                                    have HO192 := n7_
                                    have HO198 := n8_
                                    have HB := n9_
                                    have HO195 := n10_
                                    clear n0_ n1_ n2_ n3_ n4_ n5_ n6_ n7_ n8_ n9_ n10_
                                    clear ho hb hg hat
                                    refine hK.out _ _ ⟨(blk_cell BK183.out 0).trans rfl, (blk_cell BK183.out 1).trans rfl, (blk_cell BK183.out 2).trans rfl, (blk_cell BK189.out 0).trans rfl, (blk_cell BK189.out 1).trans rfl⟩ (fun hHeld => ?_)
                                    clear hK K
                                    refine norm_ (a' := ?_) ?_ ?_
                                    rotate_left
                                    · show Act.put _ (some 34) _ = _
                                      simp only [Act.put, List.setIfInBounds_toArray, List.set_cons_zero, List.set_cons_succ, i64_w, i32_w]
                                      rfl
                                    refine pure_ (i := 15) (N := some 45) (v := ?_) (a' := ?_) #[true, true, true, true, true, true, true, true, true, false, true, true, true, false, false, true, false, false, false, false, false] rfl rfl (any_of HT_.out (by kernel_rfl)) (fun _ _ _ h => h) (Or.inl ⟨by rfl, ?_⟩) ?_ ?_
                                    rotate_left
                                    · intro w'
                                      go_simp
                                      with_reducible rfl
                                    rotate_left
                                    · simp only [Act.put, List.setIfInBounds_toArray, List.set_cons_zero, List.set_cons_succ, i64_w, i32_w]
                                      rfl
                                    exact norm_ (by first | (simp only [putAll, Act.put, List.setIfInBounds_toArray, List.set_cons_zero, List.set_cons_succ]; done) | (simp only [putAll, Act.put, List.setIfInBounds_toArray, List.set_cons_zero, List.set_cons_succ]; rfl)) (hJ3_4_8 (.slice Ao50 y190.length co50, v194, v197) _ ⟨hHeld, (by (with_reducible repeat (first | apply Kd.R_alloc | apply Kd.R_drewN | apply Kd.R_drew)); exact Kd.R_mono HO192.out (fun _ hk => ⟨hk.2, ⟨hk.1.1, hk.1.2⟩⟩)), (xr HO195.out), (xr HO198.out), (xr HO_184001.out), (xr HO_184002.out), (xb BK177.out), (xb BK178.out), (xb BK179.out), (xb BK183.out), (xb BK189.out), (xs HB.out)⟩)
                                  · skip
                                    refine Kd.R_lit_step (Kd.int .i64) _ 3 ?hg (N := 43) ?hd (xs := ([t188] : List Int)) (inner := [.int .i64 t188]) (ok := fun _ => True) (okp := fun _ => True) ?hr ?hp (fun _ hk => hk) trivial (Below.refl _ _) (Nat.le_refl _) (by simp) ?_; (case hd => rfl); (case hg => rfl); (case hr => first | (go_simp; done) | (go_simp; rfl)); (case hp => exact (Reps.one (show Kd.M (Kd.int .i64) _ _ _ t188 [.int .i64 t188] from rfl) (Reps.none _ _)))
                                    intro v203 w49 ho50 hb hg_ hnew_
                                    clear hg_ hnew_
                                    (first | rw [← Ny202.out] at ho50 | (simp only [Int.reduceToNat] at ho50; rw [← Ny202.out] at ho50))
                                    have n0_ := Aside0.mk (Kd.R_below (xr HO_184000.out) hb)
                                    have n1_ := Aside0.mk (Kd.R_elder' (xr HO_184001.out) (Kd.R_base ho50) hb)
                                    have n2_ := Aside0.mk (Kd.R_elder' (xr HO_184002.out) (Kd.R_base ho50) hb)
                                    have n3_ := Aside0.mk (Kd.R_below (xr HO192.out) hb)
                                    have n4_ := Aside0.mk (Kd.R_elder' (xr HO198.out) (Kd.R_base ho50) hb)
                                    have n5_ := Aside0.mk (Kd.R_lower (Kd.R_new' (Kd.R_new' (Kd.R_new' ho50 (Kd.R_lt (xr HO_184001.out))) (Kd.R_lt (xr HO_184002.out))) (Kd.R_lt (xr HO198.out))) (below_size (xs HB.out)))
                                    have n6_ := Aside0.mk (blk_below (g := gb177) (o := .cells #[.int .i64 a0_0, .int .i64 a0_1, .int .i64 a0_2, .int .i64 a0_3] 29 (0, 0)) (xb BK177.out) hb)
                                    have n7_ := Aside0.mk (blk_below (g := gb178) (o := .cells #[.int .i64 x179000_1, .bool x179001_1] 31 (0, 0)) (xb BK178.out) hb)
                                    have n8_ := Aside0.mk (blk_below (g := gb179) (o := .cells #[.slice none 0 0, .slice none 0 0, .slice none 0 0] 92 (0, 0)) (xb BK179.out) hb)
                                    have n9_ := Aside0.mk (blk_below (g := gb183) (o := .cells #[.slice Ao39 x184000_1.length co39, .slice Ao40 x184001_1.length co40, .slice Ao41 x184002_1.length co41] 92 (0, 0)) (xb BK183.out) hb)
                                    have n10_ := Aside0.mk (blk_below (g := gb189) (o := .cells #[.int .i64 t185, .bool t186] 31 (0, 0)) (xb BK189.out) hb)
                                    have n11_ := Aside0.mk (below_step (xs HB.out) hb)
                                    clear HO_184000
                                    clear HO_184001
                                    clear HO_184002
                                    clear HO192
                                    clear HO198
                                    clear BK177
                                    clear BK178
                                    clear BK179
                                    clear BK183
                                    clear BK189
                                    clear HB
                                    have HO_184000 := n0_
                                    have HO_184001 := n1_
                                    have HO_184002 := n2_
                                    have HO192 := n3_
                                    have HO198 := n4_
                                    have HO204 := n5_
                                    have BK177 := n6_
                                    have BK178 := n7_
                                    have BK179 := n8_
                                    have BK183 := n9_
                                    have BK189 := n10_
                                    have HB := n11_
                                    clear n0_ n1_ n2_ n3_ n4_ n5_ n6_ n7_ n8_ n9_ n10_ n11_
                                    clear hb ho50
                                    refine hK.out _ _ ⟨(blk_cell BK183.out 0).trans rfl, (blk_cell BK183.out 1).trans rfl, (blk_cell BK183.out 2).trans rfl, (blk_cell BK189.out 0).trans rfl, (blk_cell BK189.out 1).trans rfl⟩ (fun hHeld => ?_)
                                    clear hK K
                                    refine norm_ (a' := ?_) ?_ ?_
                                    rotate_left
                                    · show Act.put _ (some 43) _ = _
                                      simp only [Act.put, List.setIfInBounds_toArray, List.set_cons_zero, List.set_cons_succ, i64_w, i32_w]
                                      rfl
                                    exact norm_ (by first | (simp only [putAll, Act.put, List.setIfInBounds_toArray, List.set_cons_zero, List.set_cons_succ]; done) | (simp only [putAll, Act.put, List.setIfInBounds_toArray, List.set_cons_zero, List.set_cons_succ]; rfl)) (hJ3_8_13 (.slice Ao50 y190.length co50, v197, v203) _ ⟨hHeld, (xr HO192.out), (by (with_reducible repeat (first | apply Kd.R_alloc | apply Kd.R_drewN | apply Kd.R_drew)); exact Kd.R_mono HO198.out (fun _ hk => ⟨hk.2, ⟨hk.1.1, hk.1.2⟩⟩)), (by (with_reducible repeat (first | apply Kd.R_alloc | apply Kd.R_drewN | apply Kd.R_drew)); exact Kd.R_mono HO204.out (fun _ hk => ⟨hk.2, ⟨hk.1.1.2, hk.1.2⟩⟩)), (xr HO_184000.out), (by (with_reducible repeat (first | apply Kd.R_alloc | apply Kd.R_drewN | apply Kd.R_drew)); exact Kd.R_mono HO_184001.out (fun _ hk => ⟨hk.1.1, ⟨hk.2, hk.1.2⟩⟩)), (by (with_reducible repeat (first | apply Kd.R_alloc | apply Kd.R_drewN | apply Kd.R_drew)); exact Kd.R_mono HO_184002.out (fun _ hk => ⟨hk.1.1, ⟨hk.2, hk.1.2⟩⟩)), (xb BK177.out), (xb BK178.out), (xb BK179.out), (xb BK183.out), (xb BK189.out), (xs HB.out)⟩)
                              · skip
                                rintro ⟨v191, v194⟩ w48 ⟨hS_, h0_, h1_, h2_, h3_, h4_, h5_, h6_, h7_, h8_, h9_⟩
                                have n0_ : Aside0 (Kd.R k31 31 w48 w.heap.size (fun k_ => some k_ ≠ (v194 : Value).ownBlock ∧ k_ ≠ gb178 ∧ k_ ≠ gb189) v191 y190) := ⟨h0_⟩
                                have n1_ : Aside0 (Kd.R k31 31 w48 w.heap.size (fun k_ => some k_ ≠ (v191 : Value).ownBlock ∧ k_ ≠ gb178 ∧ k_ ≠ gb189) v194 y193) := ⟨h1_⟩
                                have n2_ : Aside0 (Kd.R (Kd.int .i64) 3 w48 w.heap.size (fun k_ => some k_ ≠ (.slice Ao41 x184002_1.length co41 : Value).ownBlock) (.slice Ao40 x184001_1.length co40) x184001_1) := ⟨h2_⟩
                                have n3_ : Aside0 (Kd.R (Kd.int .i64) 3 w48 w.heap.size (fun k_ => some k_ ≠ (.slice Ao40 x184001_1.length co40 : Value).ownBlock) (.slice Ao41 x184002_1.length co41) x184002_1) := ⟨h3_⟩
                                have n4_ : Aside0 (w48.heap[gb177]? = some (.cells #[.int .i64 a0_0, .int .i64 a0_1, .int .i64 a0_2, .int .i64 a0_3] 29 (0, 0))) := ⟨h4_⟩
                                have n5_ : Aside0 (w48.heap[gb178]? = some (.cells #[.int .i64 x179000_1, .bool x179001_1] 31 (0, 0))) := ⟨h5_⟩
                                have n6_ : Aside0 (w48.heap[gb179]? = some (.cells #[.slice none 0 0, .slice none 0 0, .slice none 0 0] 92 (0, 0))) := ⟨h6_⟩
                                have n7_ : Aside0 (w48.heap[gb183]? = some (.cells #[.slice Ao39 x184000_1.length co39, .slice Ao40 x184001_1.length co40, .slice Ao41 x184002_1.length co41] 92 (0, 0))) := ⟨h7_⟩
                                have n8_ : Aside0 (w48.heap[gb189]? = some (.cells #[.int .i64 t185, .bool t186] 31 (0, 0))) := ⟨h8_⟩
                                have n9_ : Aside0 (Below w.heap.size w w48) := ⟨h9_⟩
                                clear HO_184000
                                clear HO_184001
                                clear HO_184002
                                clear BK177
                                clear BK178
                                clear BK179
                                clear BK183
                                clear BK189
                                clear HB
                                clear h0_ h1_ h2_ h3_ h4_ h5_ h6_ h7_ h8_ h9_
                                have HO192 := n0_
                                have HO195 := n1_
                                have HO_184001 := n2_
                                have HO_184002 := n3_
                                have BK177 := n4_
                                have BK178 := n5_
                                have BK179 := n6_
                                have BK183 := n7_
                                have BK189 := n8_
                                have HB := n9_
                                clear n0_ n1_ n2_ n3_ n4_ n5_ n6_ n7_ n8_ n9_
                                have hHeld : w48.cell? ⟨gb183, 0, none⟩ = some (.slice Ao39 x184000_1.length co39) ∧ w48.cell? ⟨gb183, 1, none⟩ = some (.slice Ao40 x184001_1.length co40) ∧ w48.cell? ⟨gb183, 2, none⟩ = some (.slice Ao41 x184002_1.length co41) ∧ w48.cell? ⟨gb189, 0, none⟩ = some (.int .i64 t185) ∧ w48.cell? ⟨gb189, 1, none⟩ = some (.bool t186) := hS_
                                refine norm_ (a' := ?_) ?_ ?_
                                rotate_left
                                · simp only [putAll, Act.put, List.setIfInBounds_toArray, List.set_cons_zero, List.set_cons_succ]
                                  rfl
                                refine two_ (i := 8) (j := 13) (Ni := some 38) (Nj := some 43) #[true, true, true, true, true, true, true, true, true, false, true, true, true, false, false, true, false, false, false, false, false] #[true, true, true, true, true, true, true, true, false, false, true, true, true, true, false, true, false, false, false, false, false] rfl rfl rfl rfl (two_of HT_.out (by kernel_rfl)) (by decide) (by decide) (fun K hK => ?_) (fun K hK => ?_)
                                · skip
                                  refine Kd.R_lit_step (Kd.int .i64) _ 3 ?hg (N := 38) ?hd (xs := ([t187] : List Int)) (inner := [.int .i64 t187]) (ok := fun _ => True) (okp := fun _ => True) ?hr ?hp (fun _ hk => hk) trivial (Below.refl _ _) (Nat.le_refl _) (by simp) ?_; (case hd => rfl); (case hg => rfl); (case hr => first | (go_simp; done) | (go_simp; rfl)); (case hp => exact (Reps.one (show Kd.M (Kd.int .i64) _ _ _ t187 [.int .i64 t187] from rfl) (Reps.none _ _)))
                                  intro v197 w49 ho50 hb hg_ hnew_
                                  clear hg_ hnew_
                                  (first | rw [← Ny196.out] at ho50 | (simp only [Int.reduceToNat] at ho50; rw [← Ny196.out] at ho50))
                                  have n0_ := Aside0.mk (Kd.R_elder' (xr HO_184001.out) (Kd.R_base ho50) hb)
                                  have n1_ := Aside0.mk (Kd.R_elder' (xr HO_184002.out) (Kd.R_base ho50) hb)
                                  have n2_ := Aside0.mk (Kd.R_below (xr HO192.out) hb)
                                  have n3_ := Aside0.mk (Kd.R_below (xr HO195.out) hb)
                                  have n4_ := Aside0.mk (Kd.R_lower (Kd.R_new' (Kd.R_new' ho50 (Kd.R_lt (xr HO_184001.out))) (Kd.R_lt (xr HO_184002.out))) (below_size (xs HB.out)))
                                  have n5_ := Aside0.mk (blk_below (g := gb177) (o := .cells #[.int .i64 a0_0, .int .i64 a0_1, .int .i64 a0_2, .int .i64 a0_3] 29 (0, 0)) (xb BK177.out) hb)
                                  have n6_ := Aside0.mk (blk_below (g := gb178) (o := .cells #[.int .i64 x179000_1, .bool x179001_1] 31 (0, 0)) (xb BK178.out) hb)
                                  have n7_ := Aside0.mk (blk_below (g := gb179) (o := .cells #[.slice none 0 0, .slice none 0 0, .slice none 0 0] 92 (0, 0)) (xb BK179.out) hb)
                                  have n8_ := Aside0.mk (blk_below (g := gb183) (o := .cells #[.slice Ao39 x184000_1.length co39, .slice Ao40 x184001_1.length co40, .slice Ao41 x184002_1.length co41] 92 (0, 0)) (xb BK183.out) hb)
                                  have n9_ := Aside0.mk (blk_below (g := gb189) (o := .cells #[.int .i64 t185, .bool t186] 31 (0, 0)) (xb BK189.out) hb)
                                  have n10_ := Aside0.mk (below_step (xs HB.out) hb)
                                  clear HO_184001
                                  clear HO_184002
                                  clear HO192
                                  clear HO195
                                  clear BK177
                                  clear BK178
                                  clear BK179
                                  clear BK183
                                  clear BK189
                                  clear HB
                                  have HO_184001 := n0_
                                  have HO_184002 := n1_
                                  have HO192 := n2_
                                  have HO195 := n3_
                                  have HO198 := n4_
                                  have BK177 := n5_
                                  have BK178 := n6_
                                  have BK179 := n7_
                                  have BK183 := n8_
                                  have BK189 := n9_
                                  have HB := n10_
                                  clear n0_ n1_ n2_ n3_ n4_ n5_ n6_ n7_ n8_ n9_ n10_
                                  clear hb ho50
                                  refine hK.out _ _ ⟨(blk_cell BK183.out 0).trans rfl, (blk_cell BK183.out 1).trans rfl, (blk_cell BK183.out 2).trans rfl, (blk_cell BK189.out 0).trans rfl, (blk_cell BK189.out 1).trans rfl⟩ (fun hHeld => ?_)
                                  clear hK K
                                  refine norm_ (a' := ?_) ?_ ?_
                                  rotate_left
                                  · show Act.put _ (some 38) _ = _
                                    simp only [Act.put, List.setIfInBounds_toArray, List.set_cons_zero, List.set_cons_succ, i64_w, i32_w]
                                    rfl
                                  exact norm_ (by first | (simp only [putAll, Act.put, List.setIfInBounds_toArray, List.set_cons_zero, List.set_cons_succ]; done) | (simp only [putAll, Act.put, List.setIfInBounds_toArray, List.set_cons_zero, List.set_cons_succ]; rfl)) (hJ3_4_8 (v191, v194, v197) _ ⟨hHeld, (xr HO192.out), (xr HO195.out), (by (with_reducible repeat (first | apply Kd.R_alloc | apply Kd.R_drewN | apply Kd.R_drew)); exact Kd.R_mono HO198.out (fun _ hk => ⟨hk.1.2, hk.2⟩)), (by (with_reducible repeat (first | apply Kd.R_alloc | apply Kd.R_drewN | apply Kd.R_drew)); exact Kd.R_mono HO_184001.out (fun _ hk => ⟨hk.2, hk.1⟩)), (by (with_reducible repeat (first | apply Kd.R_alloc | apply Kd.R_drewN | apply Kd.R_drew)); exact Kd.R_mono HO_184002.out (fun _ hk => ⟨hk.2, hk.1⟩)), (xb BK177.out), (xb BK178.out), (xb BK179.out), (xb BK183.out), (xb BK189.out), (xs HB.out)⟩)
                                · skip
                                  refine Kd.R_lit_step (Kd.int .i64) _ 3 ?hg (N := 43) ?hd (xs := ([t188] : List Int)) (inner := [.int .i64 t188]) (ok := fun _ => True) (okp := fun _ => True) ?hr ?hp (fun _ hk => hk) trivial (Below.refl _ _) (Nat.le_refl _) (by simp) ?_; (case hd => rfl); (case hg => rfl); (case hr => first | (go_simp; done) | (go_simp; rfl)); (case hp => exact (Reps.one (show Kd.M (Kd.int .i64) _ _ _ t188 [.int .i64 t188] from rfl) (Reps.none _ _)))
                                  intro v203 w49 ho50 hb hg_ hnew_
                                  clear hg_ hnew_
                                  (first | rw [← Ny202.out] at ho50 | (simp only [Int.reduceToNat] at ho50; rw [← Ny202.out] at ho50))
                                  have n0_ := Aside0.mk (Kd.R_elder' (xr HO_184001.out) (Kd.R_base ho50) hb)
                                  have n1_ := Aside0.mk (Kd.R_elder' (xr HO_184002.out) (Kd.R_base ho50) hb)
                                  have n2_ := Aside0.mk (Kd.R_below (xr HO192.out) hb)
                                  have n3_ := Aside0.mk (Kd.R_below (xr HO195.out) hb)
                                  have n4_ := Aside0.mk (Kd.R_lower (Kd.R_new' (Kd.R_new' ho50 (Kd.R_lt (xr HO_184001.out))) (Kd.R_lt (xr HO_184002.out))) (below_size (xs HB.out)))
                                  have n5_ := Aside0.mk (blk_below (g := gb177) (o := .cells #[.int .i64 a0_0, .int .i64 a0_1, .int .i64 a0_2, .int .i64 a0_3] 29 (0, 0)) (xb BK177.out) hb)
                                  have n6_ := Aside0.mk (blk_below (g := gb178) (o := .cells #[.int .i64 x179000_1, .bool x179001_1] 31 (0, 0)) (xb BK178.out) hb)
                                  have n7_ := Aside0.mk (blk_below (g := gb179) (o := .cells #[.slice none 0 0, .slice none 0 0, .slice none 0 0] 92 (0, 0)) (xb BK179.out) hb)
                                  have n8_ := Aside0.mk (blk_below (g := gb183) (o := .cells #[.slice Ao39 x184000_1.length co39, .slice Ao40 x184001_1.length co40, .slice Ao41 x184002_1.length co41] 92 (0, 0)) (xb BK183.out) hb)
                                  have n9_ := Aside0.mk (blk_below (g := gb189) (o := .cells #[.int .i64 t185, .bool t186] 31 (0, 0)) (xb BK189.out) hb)
                                  have n10_ := Aside0.mk (below_step (xs HB.out) hb)
                                  clear HO_184001
                                  clear HO_184002
                                  clear HO192
                                  clear HO195
                                  clear BK177
                                  clear BK178
                                  clear BK179
                                  clear BK183
                                  clear BK189
                                  clear HB
                                  have HO_184001 := n0_
                                  have HO_184002 := n1_
                                  have HO192 := n2_
                                  have HO195 := n3_
                                  have HO204 := n4_
                                  have BK177 := n5_
                                  have BK178 := n6_
                                  have BK179 := n7_
                                  have BK183 := n8_
                                  have BK189 := n9_
                                  have HB := n10_
                                  clear n0_ n1_ n2_ n3_ n4_ n5_ n6_ n7_ n8_ n9_ n10_
                                  clear hb ho50
                                  refine hK.out _ _ ⟨(blk_cell BK183.out 0).trans rfl, (blk_cell BK183.out 1).trans rfl, (blk_cell BK183.out 2).trans rfl, (blk_cell BK189.out 0).trans rfl, (blk_cell BK189.out 1).trans rfl⟩ (fun hHeld => ?_)
                                  clear hK K
                                  refine norm_ (a' := ?_) ?_ ?_
                                  rotate_left
                                  · show Act.put _ (some 43) _ = _
                                    simp only [Act.put, List.setIfInBounds_toArray, List.set_cons_zero, List.set_cons_succ, i64_w, i32_w]
                                    rfl
                                  exact norm_ (by first | (simp only [putAll, Act.put, List.setIfInBounds_toArray, List.set_cons_zero, List.set_cons_succ]; done) | (simp only [putAll, Act.put, List.setIfInBounds_toArray, List.set_cons_zero, List.set_cons_succ]; rfl)) (hJ3_4_13 (v191, v194, v203) _ ⟨hHeld, (xr HO192.out), (xr HO195.out), (by (with_reducible repeat (first | apply Kd.R_alloc | apply Kd.R_drewN | apply Kd.R_drew)); exact Kd.R_mono HO204.out (fun _ hk => ⟨hk.1.2, hk.2⟩)), (by (with_reducible repeat (first | apply Kd.R_alloc | apply Kd.R_drewN | apply Kd.R_drew)); exact Kd.R_mono HO_184001.out (fun _ hk => ⟨hk.2, hk.1⟩)), (by (with_reducible repeat (first | apply Kd.R_alloc | apply Kd.R_drewN | apply Kd.R_drew)); exact Kd.R_mono HO_184002.out (fun _ hk => ⟨hk.2, hk.1⟩)), (xb BK177.out), (xb BK178.out), (xb BK179.out), (xb BK183.out), (xb BK189.out), (xs HB.out)⟩)
                            · skip
                              rintro ⟨v191, v197, v203⟩ w50 ⟨hS_, h0_, h1_, h2_, h3_, h4_, h5_, h6_, h7_, h8_, h9_, h10_, h11_⟩
                              have n0_ : Aside0 (Kd.R k31 31 w50 w.heap.size (fun k_ => some k_ ≠ (.slice Ao39 x184000_1.length co39 : Value).ownBlock ∧ k_ ≠ gb178 ∧ k_ ≠ gb189) v191 y190) := ⟨h0_⟩
                              have n1_ : Aside0 (Kd.R (Kd.int .i64) 3 w50 w.heap.size (fun k_ => some k_ ≠ (v203 : Value).ownBlock ∧ some k_ ≠ (.slice Ao40 x184001_1.length co40 : Value).ownBlock ∧ some k_ ≠ (.slice Ao41 x184002_1.length co41 : Value).ownBlock) v197 y196) := ⟨h1_⟩
                              have n2_ : Aside0 (Kd.R (Kd.int .i64) 3 w50 w.heap.size (fun k_ => some k_ ≠ (v197 : Value).ownBlock ∧ some k_ ≠ (.slice Ao40 x184001_1.length co40 : Value).ownBlock ∧ some k_ ≠ (.slice Ao41 x184002_1.length co41 : Value).ownBlock) v203 y202) := ⟨h2_⟩
                              have n3_ : Aside0 (Kd.R k31 31 w50 w.heap.size (fun k_ => some k_ ≠ (v191 : Value).ownBlock ∧ k_ ≠ gb178 ∧ k_ ≠ gb189) (.slice Ao39 x184000_1.length co39) x184000_1) := ⟨h3_⟩
                              have n4_ : Aside0 (Kd.R (Kd.int .i64) 3 w50 w.heap.size (fun k_ => some k_ ≠ (v197 : Value).ownBlock ∧ some k_ ≠ (v203 : Value).ownBlock ∧ some k_ ≠ (.slice Ao41 x184002_1.length co41 : Value).ownBlock) (.slice Ao40 x184001_1.length co40) x184001_1) := ⟨h4_⟩
                              have n5_ : Aside0 (Kd.R (Kd.int .i64) 3 w50 w.heap.size (fun k_ => some k_ ≠ (v197 : Value).ownBlock ∧ some k_ ≠ (v203 : Value).ownBlock ∧ some k_ ≠ (.slice Ao40 x184001_1.length co40 : Value).ownBlock) (.slice Ao41 x184002_1.length co41) x184002_1) := ⟨h5_⟩
                              have n6_ : Aside0 (w50.heap[gb177]? = some (.cells #[.int .i64 a0_0, .int .i64 a0_1, .int .i64 a0_2, .int .i64 a0_3] 29 (0, 0))) := ⟨h6_⟩
                              have n7_ : Aside0 (w50.heap[gb178]? = some (.cells #[.int .i64 x179000_1, .bool x179001_1] 31 (0, 0))) := ⟨h7_⟩
                              have n8_ : Aside0 (w50.heap[gb179]? = some (.cells #[.slice none 0 0, .slice none 0 0, .slice none 0 0] 92 (0, 0))) := ⟨h8_⟩
                              have n9_ : Aside0 (w50.heap[gb183]? = some (.cells #[.slice Ao39 x184000_1.length co39, .slice Ao40 x184001_1.length co40, .slice Ao41 x184002_1.length co41] 92 (0, 0))) := ⟨h9_⟩
                              have n10_ : Aside0 (w50.heap[gb189]? = some (.cells #[.int .i64 t185, .bool t186] 31 (0, 0))) := ⟨h10_⟩
                              have n11_ : Aside0 (Below w.heap.size w w50) := ⟨h11_⟩
                              clear HO_184000
                              clear HO_184001
                              clear HO_184002
                              clear BK177
                              clear BK178
                              clear BK179
                              clear BK183
                              clear BK189
                              clear HB
                              clear h0_ h1_ h2_ h3_ h4_ h5_ h6_ h7_ h8_ h9_ h10_ h11_
                              have HO192 := n0_
                              have HO198 := n1_
                              have HO204 := n2_
                              have HO_184000 := n3_
                              have HO_184001 := n4_
                              have HO_184002 := n5_
                              have BK177 := n6_
                              have BK178 := n7_
                              have BK179 := n8_
                              have BK183 := n9_
                              have BK189 := n10_
                              have HB := n11_
                              clear n0_ n1_ n2_ n3_ n4_ n5_ n6_ n7_ n8_ n9_ n10_ n11_
                              have hHeld : w50.cell? ⟨gb183, 0, none⟩ = some (.slice Ao39 x184000_1.length co39) ∧ w50.cell? ⟨gb183, 1, none⟩ = some (.slice Ao40 x184001_1.length co40) ∧ w50.cell? ⟨gb183, 2, none⟩ = some (.slice Ao41 x184002_1.length co41) ∧ w50.cell? ⟨gb189, 0, none⟩ = some (.int .i64 t185) ∧ w50.cell? ⟨gb189, 1, none⟩ = some (.bool t186) := hS_
                              obtain ⟨Ao52, co52, eo52⟩ := Kd.R_slice HO192.out
                              (first | subst eo52 | (injection eo52 with f1_ f2_ f3_; have f4_ := f1_.symm; have f5_ := f3_.symm; clear f1_ f2_ f3_; subst f4_; subst f5_))
                              refine norm_ (a' := ?_) ?_ ?_
                              rotate_left
                              · simp only [putAll, Act.put, List.setIfInBounds_toArray, List.set_cons_zero, List.set_cons_succ]
                                rfl
                              refine one_ (i := 4) (N := some 34) #[true, true, true, true, true, true, true, true, true, false, true, true, true, true, false, false, false, false, false, false, false] rfl rfl (one_of HT_.out (by kernel_rfl)) (by decide) (fun K hK => ?_)
                              refine Kd.R_append_rows_step k31 (w0 := w) w.heap.size (by rfl) (.tmp 31) (.tmp 33) 39 31 (.agg #[(.int .i64 0), (.bool false)]) 16 rfl Try.underlying39 info31 rfl (by decide) (by omega) (.slice Ao39 x184000_1.length co39) x184000_1 y190 _ _ _ (fun k_ => some k_ ≠ (.slice Ao52 y190.length co52 : Value).ownBlock ∧ k_ ≠ gb178 ∧ k_ ≠ gb189) (fun _ => False) rfl rfl ?aO ?aR (fun _ _ h => h) (fun _ h => h.elim) ?aF ?aB ?aS ?aL ?_
                              (case aR => repeat (first | exact (Kd.R_reads' HO192.out).2.2 | (with_reducible refine Kd.C_alloc ?_ _) | (with_reducible refine Kd.C_drewN ?_ _) | (with_reducible refine Kd.C_drew ?_)))
                              (case aB => exact (xs HB.out))
                              (case aF => exact (fun k_ hk => ⟨Kd.fresh' (Kd.R_lt (xr HO192.out)) k_ hk, Kd.freshB (g := gb178) (o := .cells #[.int .i64 x179000_1, .bool x179001_1] 31 (0, 0)) (xb BK178.out) k_ hk, Kd.freshB (g := gb189) (o := .cells #[.int .i64 t185, .bool t186] 31 (0, 0)) (xb BK189.out) k_ hk⟩))
                              (case aO => exact (xr HO_184000.out))
                              (case aS => exact (below_size (xs HB.out)))
                              (case aL => have := LMc22.out; omega)
                              intro v194 w51 ho hb hg hat
                              rw [← Ny193.out] at ho
                              have n0_ := Aside0.mk (Kd.R_over' (xr HO_184001.out) (Kd.R_typed (xr HO_184000.out)) (by decide) hg)
                              have n1_ := Aside0.mk (Kd.R_over' (xr HO_184002.out) (Kd.R_typed (xr HO_184000.out)) (by decide) hg)
                              have n2_ := Aside0.mk (blk_grown (g := gb177) (o := .cells #[.int .i64 a0_0, .int .i64 a0_1, .int .i64 a0_2, .int .i64 a0_3] 29 (0, 0)) (xb BK177.out) hg (Kd.R_ne HO_184000.out BK177.out (by decide)))
                              have n3_ := Aside0.mk (blk_grown (g := gb178) (o := .cells #[.int .i64 x179000_1, .bool x179001_1] 31 (0, 0)) (xb BK178.out) hg (Kd.R_away HO_184000.out (fun _ hk => hk.2.1)))
                              have n4_ := Aside0.mk (blk_grown (g := gb179) (o := .cells #[.slice none 0 0, .slice none 0 0, .slice none 0 0] 92 (0, 0)) (xb BK179.out) hg (Kd.R_ne HO_184000.out BK179.out (by decide)))
                              have n5_ := Aside0.mk (blk_grown (g := gb183) (o := .cells #[.slice Ao39 x184000_1.length co39, .slice Ao40 x184001_1.length co40, .slice Ao41 x184002_1.length co41] 92 (0, 0)) (xb BK183.out) hg (Kd.R_ne HO_184000.out BK183.out (by decide)))
                              have n6_ := Aside0.mk (blk_grown (g := gb189) (o := .cells #[.int .i64 t185, .bool t186] 31 (0, 0)) (xb BK189.out) hg (Kd.R_away HO_184000.out (fun _ hk => hk.2.2)))
                              have n7_ := Aside0.mk (Kd.R_after (ok := (fun k_ => k_ ≠ gb178 ∧ k_ ≠ gb189)) (by (with_reducible repeat (first | apply Kd.R_alloc | apply Kd.R_drewN | apply Kd.R_drew)); exact Kd.R_mono HO192.out (fun _ hk => ⟨⟨hk.2.1, hk.2.2⟩, hk.1⟩)) hg hat)
                              have n8_ := Aside0.mk (Kd.R_over' (xr HO198.out) (Kd.R_typed (xr HO_184000.out)) (by decide) hg)
                              have n9_ := Aside0.mk (Kd.R_over' (xr HO204.out) (Kd.R_typed (xr HO_184000.out)) (by decide) hg)
                              have n10_ := Aside0.mk (hb)
                              have n11_ := Aside0.mk (ho)
                              clear HO_184001
                              clear HO_184002
                              clear BK177
                              clear BK178
                              clear BK179
                              clear BK183
                              clear BK189
                              clear HO192
                              clear HO198
                              clear HO204
                              clear HB
                              clear HO_184000
                              have HO_184001 := n0_
                              have HO_184002 := n1_
                              have BK177 := n2_
                              have BK178 := n3_
                              have BK179 := n4_
                              have BK183 := n5_
                              have BK189 := n6_
                              have HO192 := n7_
                              have HO198 := n8_
                              have HO204 := n9_
                              have HB := n10_
                              have HO195 := n11_
                              clear n0_ n1_ n2_ n3_ n4_ n5_ n6_ n7_ n8_ n9_ n10_ n11_
                              clear ho hb hg hat
                              refine hK.out _ _ ⟨(blk_cell BK183.out 0).trans rfl, (blk_cell BK183.out 1).trans rfl, (blk_cell BK183.out 2).trans rfl, (blk_cell BK189.out 0).trans rfl, (blk_cell BK189.out 1).trans rfl⟩ (fun hHeld => ?_)
                              clear hK K
                              refine norm_ (a' := ?_) ?_ ?_
                              rotate_left
                              · show Act.put _ (some 34) _ = _
                                simp only [Act.put, List.setIfInBounds_toArray, List.set_cons_zero, List.set_cons_succ, i64_w, i32_w]
                                rfl
                              refine pure_ (i := 15) (N := some 45) (v := ?_) (a' := ?_) #[true, true, true, true, true, true, true, true, true, false, true, true, true, true, false, true, false, false, false, false, false] rfl rfl (any_of HT_.out (by kernel_rfl)) (fun _ _ _ h => h) (Or.inl ⟨by rfl, ?_⟩) ?_ ?_
                              rotate_left
                              · intro w'
                                go_simp
                                with_reducible rfl
                              rotate_left
                              · simp only [Act.put, List.setIfInBounds_toArray, List.set_cons_zero, List.set_cons_succ, i64_w, i32_w]
                                rfl
                              exact norm_ (by first | (simp only [putAll, Act.put, List.setIfInBounds_toArray, List.set_cons_zero, List.set_cons_succ]; done) | (simp only [putAll, Act.put, List.setIfInBounds_toArray, List.set_cons_zero, List.set_cons_succ]; rfl)) (hJ3_4_8_13 (.slice Ao52 y190.length co52, v194, v197, v203) _ ⟨hHeld, (by (with_reducible repeat (first | apply Kd.R_alloc | apply Kd.R_drewN | apply Kd.R_drew)); exact Kd.R_mono HO192.out (fun _ hk => ⟨hk.2, ⟨hk.1.1, hk.1.2⟩⟩)), (xr HO195.out), (xr HO198.out), (xr HO204.out), (xr HO_184001.out), (xr HO_184002.out), (xb BK177.out), (xb BK178.out), (xb BK179.out), (xb BK183.out), (xb BK189.out), (xs HB.out)⟩)
                          · skip
                            rintro ⟨v191, v194, v203⟩ w50 ⟨hS_, h0_, h1_, h2_, h3_, h4_, h5_, h6_, h7_, h8_, h9_, h10_⟩
                            have n0_ : Aside0 (Kd.R k31 31 w50 w.heap.size (fun k_ => some k_ ≠ (v194 : Value).ownBlock ∧ k_ ≠ gb178 ∧ k_ ≠ gb189) v191 y190) := ⟨h0_⟩
                            have n1_ : Aside0 (Kd.R k31 31 w50 w.heap.size (fun k_ => some k_ ≠ (v191 : Value).ownBlock ∧ k_ ≠ gb178 ∧ k_ ≠ gb189) v194 y193) := ⟨h1_⟩
                            have n2_ : Aside0 (Kd.R (Kd.int .i64) 3 w50 w.heap.size (fun k_ => some k_ ≠ (.slice Ao40 x184001_1.length co40 : Value).ownBlock ∧ some k_ ≠ (.slice Ao41 x184002_1.length co41 : Value).ownBlock) v203 y202) := ⟨h2_⟩
                            have n3_ : Aside0 (Kd.R (Kd.int .i64) 3 w50 w.heap.size (fun k_ => some k_ ≠ (v203 : Value).ownBlock ∧ some k_ ≠ (.slice Ao41 x184002_1.length co41 : Value).ownBlock) (.slice Ao40 x184001_1.length co40) x184001_1) := ⟨h3_⟩
                            have n4_ : Aside0 (Kd.R (Kd.int .i64) 3 w50 w.heap.size (fun k_ => some k_ ≠ (v203 : Value).ownBlock ∧ some k_ ≠ (.slice Ao40 x184001_1.length co40 : Value).ownBlock) (.slice Ao41 x184002_1.length co41) x184002_1) := ⟨h4_⟩
                            have n5_ : Aside0 (w50.heap[gb177]? = some (.cells #[.int .i64 a0_0, .int .i64 a0_1, .int .i64 a0_2, .int .i64 a0_3] 29 (0, 0))) := ⟨h5_⟩
                            have n6_ : Aside0 (w50.heap[gb178]? = some (.cells #[.int .i64 x179000_1, .bool x179001_1] 31 (0, 0))) := ⟨h6_⟩
                            have n7_ : Aside0 (w50.heap[gb179]? = some (.cells #[.slice none 0 0, .slice none 0 0, .slice none 0 0] 92 (0, 0))) := ⟨h7_⟩
                            have n8_ : Aside0 (w50.heap[gb183]? = some (.cells #[.slice Ao39 x184000_1.length co39, .slice Ao40 x184001_1.length co40, .slice Ao41 x184002_1.length co41] 92 (0, 0))) := ⟨h8_⟩
                            have n9_ : Aside0 (w50.heap[gb189]? = some (.cells #[.int .i64 t185, .bool t186] 31 (0, 0))) := ⟨h9_⟩
                            have n10_ : Aside0 (Below w.heap.size w w50) := ⟨h10_⟩
                            clear HO_184000
                            clear HO_184001
                            clear HO_184002
                            clear BK177
                            clear BK178
                            clear BK179
                            clear BK183
                            clear BK189
                            clear HB
                            clear h0_ h1_ h2_ h3_ h4_ h5_ h6_ h7_ h8_ h9_ h10_
                            have HO192 := n0_
                            have HO195 := n1_
                            have HO204 := n2_
                            have HO_184001 := n3_
                            have HO_184002 := n4_
                            have BK177 := n5_
                            have BK178 := n6_
                            have BK179 := n7_
                            have BK183 := n8_
                            have BK189 := n9_
                            have HB := n10_
                            clear n0_ n1_ n2_ n3_ n4_ n5_ n6_ n7_ n8_ n9_ n10_
                            have hHeld : w50.cell? ⟨gb183, 0, none⟩ = some (.slice Ao39 x184000_1.length co39) ∧ w50.cell? ⟨gb183, 1, none⟩ = some (.slice Ao40 x184001_1.length co40) ∧ w50.cell? ⟨gb183, 2, none⟩ = some (.slice Ao41 x184002_1.length co41) ∧ w50.cell? ⟨gb189, 0, none⟩ = some (.int .i64 t185) ∧ w50.cell? ⟨gb189, 1, none⟩ = some (.bool t186) := hS_
                            refine norm_ (a' := ?_) ?_ ?_
                            rotate_left
                            · simp only [putAll, Act.put, List.setIfInBounds_toArray, List.set_cons_zero, List.set_cons_succ]
                              rfl
                            refine one_ (i := 8) (N := some 38) #[true, true, true, true, true, true, true, true, true, false, true, true, true, true, false, true, false, false, false, false, false] rfl rfl (one_of HT_.out (by kernel_rfl)) (by decide) (fun K hK => ?_)
                            refine Kd.R_lit_step (Kd.int .i64) _ 3 ?hg (N := 38) ?hd (xs := ([t187] : List Int)) (inner := [.int .i64 t187]) (ok := fun _ => True) (okp := fun _ => True) ?hr ?hp (fun _ hk => hk) trivial (Below.refl _ _) (Nat.le_refl _) (by simp) ?_; (case hd => rfl); (case hg => rfl); (case hr => first | (go_simp; done) | (go_simp; rfl)); (case hp => exact (Reps.one (show Kd.M (Kd.int .i64) _ _ _ t187 [.int .i64 t187] from rfl) (Reps.none _ _)))
                            intro v197 w51 ho52 hb hg_ hnew_
                            clear hg_ hnew_
                            (first | rw [← Ny196.out] at ho52 | (simp only [Int.reduceToNat] at ho52; rw [← Ny196.out] at ho52))
                            have n0_ := Aside0.mk (Kd.R_elder' (xr HO_184001.out) (Kd.R_base ho52) hb)
                            have n1_ := Aside0.mk (Kd.R_elder' (xr HO_184002.out) (Kd.R_base ho52) hb)
                            have n2_ := Aside0.mk (Kd.R_below (xr HO192.out) hb)
                            have n3_ := Aside0.mk (Kd.R_below (xr HO195.out) hb)
                            have n4_ := Aside0.mk (Kd.R_elder' (xr HO204.out) (Kd.R_base ho52) hb)
                            have n5_ := Aside0.mk (Kd.R_lower (Kd.R_new' (Kd.R_new' (Kd.R_new' ho52 (Kd.R_lt (xr HO_184001.out))) (Kd.R_lt (xr HO_184002.out))) (Kd.R_lt (xr HO204.out))) (below_size (xs HB.out)))
                            have n6_ := Aside0.mk (blk_below (g := gb177) (o := .cells #[.int .i64 a0_0, .int .i64 a0_1, .int .i64 a0_2, .int .i64 a0_3] 29 (0, 0)) (xb BK177.out) hb)
                            have n7_ := Aside0.mk (blk_below (g := gb178) (o := .cells #[.int .i64 x179000_1, .bool x179001_1] 31 (0, 0)) (xb BK178.out) hb)
                            have n8_ := Aside0.mk (blk_below (g := gb179) (o := .cells #[.slice none 0 0, .slice none 0 0, .slice none 0 0] 92 (0, 0)) (xb BK179.out) hb)
                            have n9_ := Aside0.mk (blk_below (g := gb183) (o := .cells #[.slice Ao39 x184000_1.length co39, .slice Ao40 x184001_1.length co40, .slice Ao41 x184002_1.length co41] 92 (0, 0)) (xb BK183.out) hb)
                            have n10_ := Aside0.mk (blk_below (g := gb189) (o := .cells #[.int .i64 t185, .bool t186] 31 (0, 0)) (xb BK189.out) hb)
                            have n11_ := Aside0.mk (below_step (xs HB.out) hb)
                            clear HO_184001
                            clear HO_184002
                            clear HO192
                            clear HO195
                            clear HO204
                            clear BK177
                            clear BK178
                            clear BK179
                            clear BK183
                            clear BK189
                            clear HB
                            have HO_184001 := n0_
                            have HO_184002 := n1_
                            have HO192 := n2_
                            have HO195 := n3_
                            have HO204 := n4_
                            have HO198 := n5_
                            have BK177 := n6_
                            have BK178 := n7_
                            have BK179 := n8_
                            have BK183 := n9_
                            have BK189 := n10_
                            have HB := n11_
                            clear n0_ n1_ n2_ n3_ n4_ n5_ n6_ n7_ n8_ n9_ n10_ n11_
                            clear hb ho52
                            refine hK.out _ _ ⟨(blk_cell BK183.out 0).trans rfl, (blk_cell BK183.out 1).trans rfl, (blk_cell BK183.out 2).trans rfl, (blk_cell BK189.out 0).trans rfl, (blk_cell BK189.out 1).trans rfl⟩ (fun hHeld => ?_)
                            clear hK K
                            refine norm_ (a' := ?_) ?_ ?_
                            rotate_left
                            · show Act.put _ (some 38) _ = _
                              simp only [Act.put, List.setIfInBounds_toArray, List.set_cons_zero, List.set_cons_succ, i64_w, i32_w]
                              rfl
                            exact norm_ (by first | (simp only [putAll, Act.put, List.setIfInBounds_toArray, List.set_cons_zero, List.set_cons_succ]; done) | (simp only [putAll, Act.put, List.setIfInBounds_toArray, List.set_cons_zero, List.set_cons_succ]; rfl)) (hJ3_4_8_13 (v191, v194, v197, v203) _ ⟨hHeld, (xr HO192.out), (xr HO195.out), (by (with_reducible repeat (first | apply Kd.R_alloc | apply Kd.R_drewN | apply Kd.R_drew)); exact Kd.R_mono HO198.out (fun _ hk => ⟨hk.2, ⟨hk.1.1.2, hk.1.2⟩⟩)), (by (with_reducible repeat (first | apply Kd.R_alloc | apply Kd.R_drewN | apply Kd.R_drew)); exact Kd.R_mono HO204.out (fun _ hk => ⟨hk.2, ⟨hk.1.1, hk.1.2⟩⟩)), (by (with_reducible repeat (first | apply Kd.R_alloc | apply Kd.R_drewN | apply Kd.R_drew)); exact Kd.R_mono HO_184001.out (fun _ hk => ⟨hk.2, ⟨hk.1.1, hk.1.2⟩⟩)), (by (with_reducible repeat (first | apply Kd.R_alloc | apply Kd.R_drewN | apply Kd.R_drew)); exact Kd.R_mono HO_184002.out (fun _ hk => ⟨hk.2, ⟨hk.1.1, hk.1.2⟩⟩)), (xb BK177.out), (xb BK178.out), (xb BK179.out), (xb BK183.out), (xb BK189.out), (xs HB.out)⟩)
                        · skip
                          rintro ⟨v191, v194, v197⟩ w50 ⟨hS_, h0_, h1_, h2_, h3_, h4_, h5_, h6_, h7_, h8_, h9_, h10_⟩
                          have n0_ : Aside0 (Kd.R k31 31 w50 w.heap.size (fun k_ => some k_ ≠ (v194 : Value).ownBlock ∧ k_ ≠ gb178 ∧ k_ ≠ gb189) v191 y190) := ⟨h0_⟩
                          have n1_ : Aside0 (Kd.R k31 31 w50 w.heap.size (fun k_ => some k_ ≠ (v191 : Value).ownBlock ∧ k_ ≠ gb178 ∧ k_ ≠ gb189) v194 y193) := ⟨h1_⟩
                          have n2_ : Aside0 (Kd.R (Kd.int .i64) 3 w50 w.heap.size (fun k_ => some k_ ≠ (.slice Ao40 x184001_1.length co40 : Value).ownBlock ∧ some k_ ≠ (.slice Ao41 x184002_1.length co41 : Value).ownBlock) v197 y196) := ⟨h2_⟩
                          have n3_ : Aside0 (Kd.R (Kd.int .i64) 3 w50 w.heap.size (fun k_ => some k_ ≠ (v197 : Value).ownBlock ∧ some k_ ≠ (.slice Ao41 x184002_1.length co41 : Value).ownBlock) (.slice Ao40 x184001_1.length co40) x184001_1) := ⟨h3_⟩
                          have n4_ : Aside0 (Kd.R (Kd.int .i64) 3 w50 w.heap.size (fun k_ => some k_ ≠ (v197 : Value).ownBlock ∧ some k_ ≠ (.slice Ao40 x184001_1.length co40 : Value).ownBlock) (.slice Ao41 x184002_1.length co41) x184002_1) := ⟨h4_⟩
                          have n5_ : Aside0 (w50.heap[gb177]? = some (.cells #[.int .i64 a0_0, .int .i64 a0_1, .int .i64 a0_2, .int .i64 a0_3] 29 (0, 0))) := ⟨h5_⟩
                          have n6_ : Aside0 (w50.heap[gb178]? = some (.cells #[.int .i64 x179000_1, .bool x179001_1] 31 (0, 0))) := ⟨h6_⟩
                          have n7_ : Aside0 (w50.heap[gb179]? = some (.cells #[.slice none 0 0, .slice none 0 0, .slice none 0 0] 92 (0, 0))) := ⟨h7_⟩
                          have n8_ : Aside0 (w50.heap[gb183]? = some (.cells #[.slice Ao39 x184000_1.length co39, .slice Ao40 x184001_1.length co40, .slice Ao41 x184002_1.length co41] 92 (0, 0))) := ⟨h8_⟩
                          have n9_ : Aside0 (w50.heap[gb189]? = some (.cells #[.int .i64 t185, .bool t186] 31 (0, 0))) := ⟨h9_⟩
                          have n10_ : Aside0 (Below w.heap.size w w50) := ⟨h10_⟩
                          clear HO_184000
                          clear HO_184001
                          clear HO_184002
                          clear BK177
                          clear BK178
                          clear BK179
                          clear BK183
                          clear BK189
                          clear HB
                          clear h0_ h1_ h2_ h3_ h4_ h5_ h6_ h7_ h8_ h9_ h10_
                          have HO192 := n0_
                          have HO195 := n1_
                          have HO198 := n2_
                          have HO_184001 := n3_
                          have HO_184002 := n4_
                          have BK177 := n5_
                          have BK178 := n6_
                          have BK179 := n7_
                          have BK183 := n8_
                          have BK189 := n9_
                          have HB := n10_
                          clear n0_ n1_ n2_ n3_ n4_ n5_ n6_ n7_ n8_ n9_ n10_
                          have hHeld : w50.cell? ⟨gb183, 0, none⟩ = some (.slice Ao39 x184000_1.length co39) ∧ w50.cell? ⟨gb183, 1, none⟩ = some (.slice Ao40 x184001_1.length co40) ∧ w50.cell? ⟨gb183, 2, none⟩ = some (.slice Ao41 x184002_1.length co41) ∧ w50.cell? ⟨gb189, 0, none⟩ = some (.int .i64 t185) ∧ w50.cell? ⟨gb189, 1, none⟩ = some (.bool t186) := hS_
                          obtain ⟨Ao52, co52, eo52⟩ := Kd.R_slice HO198.out
                          (first | subst eo52 | (injection eo52 with f1_ f2_ f3_; have f4_ := f1_.symm; have f5_ := f3_.symm; clear f1_ f2_ f3_; subst f4_; subst f5_))
                          refine norm_ (a' := ?_) ?_ ?_
                          rotate_left
                          · simp only [putAll, Act.put, List.setIfInBounds_toArray, List.set_cons_zero, List.set_cons_succ]
                            rfl
                          refine two_ (i := 9) (j := 13) (Ni := some 39) (Nj := some 43) #[true, true, true, true, true, true, true, true, true, true, true, true, true, false, false, true, false, false, false, false, false] #[true, true, true, true, true, true, true, true, true, false, true, true, true, true, false, true, false, false, false, false, false] rfl rfl rfl rfl (two_of HT_.out (by kernel_rfl)) (by decide) (by decide) (fun K hK => ?_) (fun K hK => ?_)
                          · skip
                            refine Kd.R_append_rows_step (Kd.int .i64) (w0 := w) w.heap.size (by rfl) (.tmp 36) (.tmp 38) 26 3 (.int .i64 0) 8 rfl Try.underlying26 info3 rfl (by decide) (by omega) (.slice Ao40 x184001_1.length co40) x184001_1 y196 _ _ _ (fun k_ => some k_ ≠ (.slice Ao41 x184002_1.length co41 : Value).ownBlock ∧ some k_ ≠ (.slice Ao52 y196.length co52 : Value).ownBlock) (fun _ => False) rfl rfl ?aO ?aR (fun _ _ h => h) (fun _ h => h.elim) ?aF ?aB ?aS ?aL ?_
                            (case aR => repeat (first | exact (Kd.R_reads' HO198.out).2.2 | (with_reducible refine Kd.C_alloc ?_ _) | (with_reducible refine Kd.C_drewN ?_ _) | (with_reducible refine Kd.C_drew ?_)))
                            (case aB => exact (xs HB.out))
                            (case aF => exact (fun k_ hk => ⟨Kd.fresh' (Kd.R_lt (xr HO_184002.out)) k_ hk, Kd.fresh' (Kd.R_lt (xr HO198.out)) k_ hk⟩))
                            (case aO => exact (by (with_reducible repeat (first | apply Kd.R_alloc | apply Kd.R_drewN | apply Kd.R_drew)); exact Kd.R_mono HO_184001.out (fun _ hk => ⟨hk.2, hk.1⟩)))
                            (case aS => exact (below_size (xs HB.out)))
                            (case aL => have := LMc23.out; omega)
                            intro v200 w51 ho hb hg hat
                            rw [← Ny199.out] at ho
                            have n0_ := Aside0.mk (Kd.R_after (ok := (fun k_ => some k_ ≠ (.slice Ao52 y196.length co52 : Value).ownBlock)) (xr HO_184002.out) hg hat)
                            have n1_ := Aside0.mk (blk_grown (g := gb177) (o := .cells #[.int .i64 a0_0, .int .i64 a0_1, .int .i64 a0_2, .int .i64 a0_3] 29 (0, 0)) (xb BK177.out) hg (Kd.R_ne HO_184001.out BK177.out (by decide)))
                            have n2_ := Aside0.mk (blk_grown (g := gb178) (o := .cells #[.int .i64 x179000_1, .bool x179001_1] 31 (0, 0)) (xb BK178.out) hg (Kd.R_ne HO_184001.out BK178.out (by decide)))
                            have n3_ := Aside0.mk (blk_grown (g := gb179) (o := .cells #[.slice none 0 0, .slice none 0 0, .slice none 0 0] 92 (0, 0)) (xb BK179.out) hg (Kd.R_ne HO_184001.out BK179.out (by decide)))
                            have n4_ := Aside0.mk (blk_grown (g := gb183) (o := .cells #[.slice Ao39 x184000_1.length co39, .slice Ao40 x184001_1.length co40, .slice Ao41 x184002_1.length co41] 92 (0, 0)) (xb BK183.out) hg (Kd.R_ne HO_184001.out BK183.out (by decide)))
                            have n5_ := Aside0.mk (blk_grown (g := gb189) (o := .cells #[.int .i64 t185, .bool t186] 31 (0, 0)) (xb BK189.out) hg (Kd.R_ne HO_184001.out BK189.out (by decide)))
                            have n6_ := Aside0.mk (Kd.R_over' (xr HO192.out) (Kd.R_typed (xr HO_184001.out)) (by decide) hg)
                            have n7_ := Aside0.mk (Kd.R_over' (xr HO195.out) (Kd.R_typed (xr HO_184001.out)) (by decide) hg)
                            have n8_ := Aside0.mk (Kd.R_after (ok := (fun k_ => some k_ ≠ (.slice Ao41 x184002_1.length co41 : Value).ownBlock)) (by (with_reducible repeat (first | apply Kd.R_alloc | apply Kd.R_drewN | apply Kd.R_drew)); exact Kd.R_mono HO198.out (fun _ hk => ⟨hk.2, hk.1⟩)) hg hat)
                            have n9_ := Aside0.mk (hb)
                            have n10_ := Aside0.mk (ho)
                            clear HO_184002
                            clear BK177
                            clear BK178
                            clear BK179
                            clear BK183
                            clear BK189
                            clear HO192
                            clear HO195
                            clear HO198
                            clear HB
                            clear HO_184001
                            have HO_184002 := n0_
                            have BK177 := n1_
                            have BK178 := n2_
                            have BK179 := n3_
                            have BK183 := n4_
                            have BK189 := n5_
                            have HO192 := n6_
                            have HO195 := n7_
                            have HO198 := n8_
                            have HB := n9_
                            have HO201 := n10_
                            clear n0_ n1_ n2_ n3_ n4_ n5_ n6_ n7_ n8_ n9_ n10_
                            clear ho hb hg hat
                            refine hK.out _ _ ⟨(blk_cell BK183.out 0).trans rfl, (blk_cell BK183.out 1).trans rfl, (blk_cell BK183.out 2).trans rfl, (blk_cell BK189.out 0).trans rfl, (blk_cell BK189.out 1).trans rfl⟩ (fun hHeld => ?_)
                            clear hK K
                            refine norm_ (a' := ?_) ?_ ?_
                            rotate_left
                            · show Act.put _ (some 39) _ = _
                              simp only [Act.put, List.setIfInBounds_toArray, List.set_cons_zero, List.set_cons_succ, i64_w, i32_w]
                              rfl
                            exact norm_ (by first | (simp only [putAll, Act.put, List.setIfInBounds_toArray, List.set_cons_zero, List.set_cons_succ]; done) | (simp only [putAll, Act.put, List.setIfInBounds_toArray, List.set_cons_zero, List.set_cons_succ]; rfl)) (hJ3_4_8_9 (v191, v194, .slice Ao52 y196.length co52, v200) _ ⟨hHeld, (xr HO192.out), (xr HO195.out), (by (with_reducible repeat (first | apply Kd.R_alloc | apply Kd.R_drewN | apply Kd.R_drew)); exact Kd.R_mono HO198.out (fun _ hk => ⟨hk.2, hk.1⟩)), (by (with_reducible repeat (first | apply Kd.R_alloc | apply Kd.R_drewN | apply Kd.R_drew)); exact Kd.R_mono HO201.out (fun _ hk => ⟨hk.2, hk.1⟩)), (xr HO_184002.out), (xb BK177.out), (xb BK178.out), (xb BK179.out), (xb BK183.out), (xb BK189.out), (xs HB.out)⟩)
                          · skip
                            refine Kd.R_lit_step (Kd.int .i64) _ 3 ?hg (N := 43) ?hd (xs := ([t188] : List Int)) (inner := [.int .i64 t188]) (ok := fun _ => True) (okp := fun _ => True) ?hr ?hp (fun _ hk => hk) trivial (Below.refl _ _) (Nat.le_refl _) (by simp) ?_; (case hd => rfl); (case hg => rfl); (case hr => first | (go_simp; done) | (go_simp; rfl)); (case hp => exact (Reps.one (show Kd.M (Kd.int .i64) _ _ _ t188 [.int .i64 t188] from rfl) (Reps.none _ _)))
                            intro v203 w51 ho52 hb hg_ hnew_
                            clear hg_ hnew_
                            (first | rw [← Ny202.out] at ho52 | (simp only [Int.reduceToNat] at ho52; rw [← Ny202.out] at ho52))
                            have n0_ := Aside0.mk (Kd.R_elder' (xr HO_184001.out) (Kd.R_base ho52) hb)
                            have n1_ := Aside0.mk (Kd.R_elder' (xr HO_184002.out) (Kd.R_base ho52) hb)
                            have n2_ := Aside0.mk (Kd.R_below (xr HO192.out) hb)
                            have n3_ := Aside0.mk (Kd.R_below (xr HO195.out) hb)
                            have n4_ := Aside0.mk (Kd.R_elder' (xr HO198.out) (Kd.R_base ho52) hb)
                            have n5_ := Aside0.mk (Kd.R_lower (Kd.R_new' (Kd.R_new' (Kd.R_new' ho52 (Kd.R_lt (xr HO_184001.out))) (Kd.R_lt (xr HO_184002.out))) (Kd.R_lt (xr HO198.out))) (below_size (xs HB.out)))
                            have n6_ := Aside0.mk (blk_below (g := gb177) (o := .cells #[.int .i64 a0_0, .int .i64 a0_1, .int .i64 a0_2, .int .i64 a0_3] 29 (0, 0)) (xb BK177.out) hb)
                            have n7_ := Aside0.mk (blk_below (g := gb178) (o := .cells #[.int .i64 x179000_1, .bool x179001_1] 31 (0, 0)) (xb BK178.out) hb)
                            have n8_ := Aside0.mk (blk_below (g := gb179) (o := .cells #[.slice none 0 0, .slice none 0 0, .slice none 0 0] 92 (0, 0)) (xb BK179.out) hb)
                            have n9_ := Aside0.mk (blk_below (g := gb183) (o := .cells #[.slice Ao39 x184000_1.length co39, .slice Ao40 x184001_1.length co40, .slice Ao41 x184002_1.length co41] 92 (0, 0)) (xb BK183.out) hb)
                            have n10_ := Aside0.mk (blk_below (g := gb189) (o := .cells #[.int .i64 t185, .bool t186] 31 (0, 0)) (xb BK189.out) hb)
                            have n11_ := Aside0.mk (below_step (xs HB.out) hb)
                            clear HO_184001
                            clear HO_184002
                            clear HO192
                            clear HO195
                            clear HO198
                            clear BK177
                            clear BK178
                            clear BK179
                            clear BK183
                            clear BK189
                            clear HB
                            have HO_184001 := n0_
                            have HO_184002 := n1_
                            have HO192 := n2_
                            have HO195 := n3_
                            have HO198 := n4_
                            have HO204 := n5_
                            have BK177 := n6_
                            have BK178 := n7_
                            have BK179 := n8_
                            have BK183 := n9_
                            have BK189 := n10_
                            have HB := n11_
                            clear n0_ n1_ n2_ n3_ n4_ n5_ n6_ n7_ n8_ n9_ n10_ n11_
                            clear hb ho52
                            refine hK.out _ _ ⟨(blk_cell BK183.out 0).trans rfl, (blk_cell BK183.out 1).trans rfl, (blk_cell BK183.out 2).trans rfl, (blk_cell BK189.out 0).trans rfl, (blk_cell BK189.out 1).trans rfl⟩ (fun hHeld => ?_)
                            clear hK K
                            refine norm_ (a' := ?_) ?_ ?_
                            rotate_left
                            · show Act.put _ (some 43) _ = _
                              simp only [Act.put, List.setIfInBounds_toArray, List.set_cons_zero, List.set_cons_succ, i64_w, i32_w]
                              rfl
                            exact norm_ (by first | (simp only [putAll, Act.put, List.setIfInBounds_toArray, List.set_cons_zero, List.set_cons_succ]; done) | (simp only [putAll, Act.put, List.setIfInBounds_toArray, List.set_cons_zero, List.set_cons_succ]; rfl)) (hJ3_4_8_13 (v191, v194, .slice Ao52 y196.length co52, v203) _ ⟨hHeld, (xr HO192.out), (xr HO195.out), (by (with_reducible repeat (first | apply Kd.R_alloc | apply Kd.R_drewN | apply Kd.R_drew)); exact Kd.R_mono HO198.out (fun _ hk => ⟨hk.2, ⟨hk.1.1, hk.1.2⟩⟩)), (by (with_reducible repeat (first | apply Kd.R_alloc | apply Kd.R_drewN | apply Kd.R_drew)); exact Kd.R_mono HO204.out (fun _ hk => ⟨hk.2, ⟨hk.1.1.2, hk.1.2⟩⟩)), (by (with_reducible repeat (first | apply Kd.R_alloc | apply Kd.R_drewN | apply Kd.R_drew)); exact Kd.R_mono HO_184001.out (fun _ hk => ⟨hk.1.1, ⟨hk.2, hk.1.2⟩⟩)), (by (with_reducible repeat (first | apply Kd.R_alloc | apply Kd.R_drewN | apply Kd.R_drew)); exact Kd.R_mono HO_184002.out (fun _ hk => ⟨hk.1.1, ⟨hk.2, hk.1.2⟩⟩)), (xb BK177.out), (xb BK178.out), (xb BK179.out), (xb BK183.out), (xb BK189.out), (xs HB.out)⟩)
                      · skip
                        rintro ⟨v191, v194, v197, v203⟩ w52 ⟨hS_, h0_, h1_, h2_, h3_, h4_, h5_, h6_, h7_, h8_, h9_, h10_, h11_⟩
                        have n0_ : Aside0 (Kd.R k31 31 w52 w.heap.size (fun k_ => some k_ ≠ (v194 : Value).ownBlock ∧ k_ ≠ gb178 ∧ k_ ≠ gb189) v191 y190) := ⟨h0_⟩
                        have n1_ : Aside0 (Kd.R k31 31 w52 w.heap.size (fun k_ => some k_ ≠ (v191 : Value).ownBlock ∧ k_ ≠ gb178 ∧ k_ ≠ gb189) v194 y193) := ⟨h1_⟩
                        have n2_ : Aside0 (Kd.R (Kd.int .i64) 3 w52 w.heap.size (fun k_ => some k_ ≠ (v203 : Value).ownBlock ∧ some k_ ≠ (.slice Ao40 x184001_1.length co40 : Value).ownBlock ∧ some k_ ≠ (.slice Ao41 x184002_1.length co41 : Value).ownBlock) v197 y196) := ⟨h2_⟩
                        have n3_ : Aside0 (Kd.R (Kd.int .i64) 3 w52 w.heap.size (fun k_ => some k_ ≠ (v197 : Value).ownBlock ∧ some k_ ≠ (.slice Ao40 x184001_1.length co40 : Value).ownBlock ∧ some k_ ≠ (.slice Ao41 x184002_1.length co41 : Value).ownBlock) v203 y202) := ⟨h3_⟩
                        have n4_ : Aside0 (Kd.R (Kd.int .i64) 3 w52 w.heap.size (fun k_ => some k_ ≠ (v197 : Value).ownBlock ∧ some k_ ≠ (v203 : Value).ownBlock ∧ some k_ ≠ (.slice Ao41 x184002_1.length co41 : Value).ownBlock) (.slice Ao40 x184001_1.length co40) x184001_1) := ⟨h4_⟩
                        have n5_ : Aside0 (Kd.R (Kd.int .i64) 3 w52 w.heap.size (fun k_ => some k_ ≠ (v197 : Value).ownBlock ∧ some k_ ≠ (v203 : Value).ownBlock ∧ some k_ ≠ (.slice Ao40 x184001_1.length co40 : Value).ownBlock) (.slice Ao41 x184002_1.length co41) x184002_1) := ⟨h5_⟩
                        have n6_ : Aside0 (w52.heap[gb177]? = some (.cells #[.int .i64 a0_0, .int .i64 a0_1, .int .i64 a0_2, .int .i64 a0_3] 29 (0, 0))) := ⟨h6_⟩
                        have n7_ : Aside0 (w52.heap[gb178]? = some (.cells #[.int .i64 x179000_1, .bool x179001_1] 31 (0, 0))) := ⟨h7_⟩
                        have n8_ : Aside0 (w52.heap[gb179]? = some (.cells #[.slice none 0 0, .slice none 0 0, .slice none 0 0] 92 (0, 0))) := ⟨h8_⟩
                        have n9_ : Aside0 (w52.heap[gb183]? = some (.cells #[.slice Ao39 x184000_1.length co39, .slice Ao40 x184001_1.length co40, .slice Ao41 x184002_1.length co41] 92 (0, 0))) := ⟨h9_⟩
                        have n10_ : Aside0 (w52.heap[gb189]? = some (.cells #[.int .i64 t185, .bool t186] 31 (0, 0))) := ⟨h10_⟩
                        have n11_ : Aside0 (Below w.heap.size w w52) := ⟨h11_⟩
                        clear HO_184000
                        clear HO_184001
                        clear HO_184002
                        clear BK177
                        clear BK178
                        clear BK179
                        clear BK183
                        clear BK189
                        clear HB
                        clear h0_ h1_ h2_ h3_ h4_ h5_ h6_ h7_ h8_ h9_ h10_ h11_
                        have HO192 := n0_
                        have HO195 := n1_
                        have HO198 := n2_
                        have HO204 := n3_
                        have HO_184001 := n4_
                        have HO_184002 := n5_
                        have BK177 := n6_
                        have BK178 := n7_
                        have BK179 := n8_
                        have BK183 := n9_
                        have BK189 := n10_
                        have HB := n11_
                        clear n0_ n1_ n2_ n3_ n4_ n5_ n6_ n7_ n8_ n9_ n10_ n11_
                        have hHeld : w52.cell? ⟨gb183, 0, none⟩ = some (.slice Ao39 x184000_1.length co39) ∧ w52.cell? ⟨gb183, 1, none⟩ = some (.slice Ao40 x184001_1.length co40) ∧ w52.cell? ⟨gb183, 2, none⟩ = some (.slice Ao41 x184002_1.length co41) ∧ w52.cell? ⟨gb189, 0, none⟩ = some (.int .i64 t185) ∧ w52.cell? ⟨gb189, 1, none⟩ = some (.bool t186) := hS_
                        obtain ⟨Ao54, co54, eo54⟩ := Kd.R_slice HO198.out
                        (first | subst eo54 | (injection eo54 with f1_ f2_ f3_; have f4_ := f1_.symm; have f5_ := f3_.symm; clear f1_ f2_ f3_; subst f4_; subst f5_))
                        refine norm_ (a' := ?_) ?_ ?_
                        rotate_left
                        · simp only [putAll, Act.put, List.setIfInBounds_toArray, List.set_cons_zero, List.set_cons_succ]
                          rfl
                        refine one_ (i := 9) (N := some 39) #[true, true, true, true, true, true, true, true, true, true, true, true, true, true, false, true, false, false, false, false, false] rfl rfl (one_of HT_.out (by kernel_rfl)) (by decide) (fun K hK => ?_)
                        refine Kd.R_append_rows_step (Kd.int .i64) (w0 := w) w.heap.size (by rfl) (.tmp 36) (.tmp 38) 26 3 (.int .i64 0) 8 rfl Try.underlying26 info3 rfl (by decide) (by omega) (.slice Ao40 x184001_1.length co40) x184001_1 y196 _ _ _ (fun k_ => some k_ ≠ (.slice Ao41 x184002_1.length co41 : Value).ownBlock ∧ some k_ ≠ (.slice Ao54 y196.length co54 : Value).ownBlock ∧ some k_ ≠ (v203 : Value).ownBlock) (fun _ => False) rfl rfl ?aO ?aR (fun _ _ h => h) (fun _ h => h.elim) ?aF ?aB ?aS ?aL ?_
                        (case aR => repeat (first | exact (Kd.R_reads' HO198.out).2.2 | (with_reducible refine Kd.C_alloc ?_ _) | (with_reducible refine Kd.C_drewN ?_ _) | (with_reducible refine Kd.C_drew ?_)))
                        (case aB => exact (xs HB.out))
                        (case aF => exact (fun k_ hk => ⟨Kd.fresh' (Kd.R_lt (xr HO_184002.out)) k_ hk, Kd.fresh' (Kd.R_lt (xr HO198.out)) k_ hk, Kd.fresh' (Kd.R_lt (xr HO204.out)) k_ hk⟩))
                        (case aO => exact (by (with_reducible repeat (first | apply Kd.R_alloc | apply Kd.R_drewN | apply Kd.R_drew)); exact Kd.R_mono HO_184001.out (fun _ hk => ⟨hk.2.2, ⟨hk.1, hk.2.1⟩⟩)))
                        (case aS => exact (below_size (xs HB.out)))
                        (case aL => have := LMc23.out; omega)
                        intro v200 w53 ho hb hg hat
                        rw [← Ny199.out] at ho
                        have n0_ := Aside0.mk (Kd.R_after (ok := (fun k_ => some k_ ≠ (.slice Ao54 y196.length co54 : Value).ownBlock ∧ some k_ ≠ (v203 : Value).ownBlock)) (by (with_reducible repeat (first | apply Kd.R_alloc | apply Kd.R_drewN | apply Kd.R_drew)); exact Kd.R_mono HO_184002.out (fun _ hk => ⟨⟨hk.1, hk.2.1⟩, hk.2.2⟩)) hg hat)
                        have n1_ := Aside0.mk (blk_grown (g := gb177) (o := .cells #[.int .i64 a0_0, .int .i64 a0_1, .int .i64 a0_2, .int .i64 a0_3] 29 (0, 0)) (xb BK177.out) hg (Kd.R_ne HO_184001.out BK177.out (by decide)))
                        have n2_ := Aside0.mk (blk_grown (g := gb178) (o := .cells #[.int .i64 x179000_1, .bool x179001_1] 31 (0, 0)) (xb BK178.out) hg (Kd.R_ne HO_184001.out BK178.out (by decide)))
                        have n3_ := Aside0.mk (blk_grown (g := gb179) (o := .cells #[.slice none 0 0, .slice none 0 0, .slice none 0 0] 92 (0, 0)) (xb BK179.out) hg (Kd.R_ne HO_184001.out BK179.out (by decide)))
                        have n4_ := Aside0.mk (blk_grown (g := gb183) (o := .cells #[.slice Ao39 x184000_1.length co39, .slice Ao40 x184001_1.length co40, .slice Ao41 x184002_1.length co41] 92 (0, 0)) (xb BK183.out) hg (Kd.R_ne HO_184001.out BK183.out (by decide)))
                        have n5_ := Aside0.mk (blk_grown (g := gb189) (o := .cells #[.int .i64 t185, .bool t186] 31 (0, 0)) (xb BK189.out) hg (Kd.R_ne HO_184001.out BK189.out (by decide)))
                        have n6_ := Aside0.mk (Kd.R_over' (xr HO192.out) (Kd.R_typed (xr HO_184001.out)) (by decide) hg)
                        have n7_ := Aside0.mk (Kd.R_over' (xr HO195.out) (Kd.R_typed (xr HO_184001.out)) (by decide) hg)
                        have n8_ := Aside0.mk (Kd.R_after (ok := (fun k_ => some k_ ≠ (.slice Ao41 x184002_1.length co41 : Value).ownBlock ∧ some k_ ≠ (v203 : Value).ownBlock)) (by (with_reducible repeat (first | apply Kd.R_alloc | apply Kd.R_drewN | apply Kd.R_drew)); exact Kd.R_mono HO198.out (fun _ hk => ⟨⟨hk.2.2, hk.1⟩, hk.2.1⟩)) hg hat)
                        have n9_ := Aside0.mk (Kd.R_after (ok := (fun k_ => some k_ ≠ (.slice Ao41 x184002_1.length co41 : Value).ownBlock ∧ some k_ ≠ (.slice Ao54 y196.length co54 : Value).ownBlock)) (by (with_reducible repeat (first | apply Kd.R_alloc | apply Kd.R_drewN | apply Kd.R_drew)); exact Kd.R_mono HO204.out (fun _ hk => ⟨⟨hk.2.2, hk.1⟩, hk.2.1⟩)) hg hat)
                        have n10_ := Aside0.mk (hb)
                        have n11_ := Aside0.mk (ho)
                        clear HO_184002
                        clear BK177
                        clear BK178
                        clear BK179
                        clear BK183
                        clear BK189
                        clear HO192
                        clear HO195
                        clear HO198
                        clear HO204
                        clear HB
                        clear HO_184001
                        have HO_184002 := n0_
                        have BK177 := n1_
                        have BK178 := n2_
                        have BK179 := n3_
                        have BK183 := n4_
                        have BK189 := n5_
                        have HO192 := n6_
                        have HO195 := n7_
                        have HO198 := n8_
                        have HO204 := n9_
                        have HB := n10_
                        have HO201 := n11_
                        clear n0_ n1_ n2_ n3_ n4_ n5_ n6_ n7_ n8_ n9_ n10_ n11_
                        clear ho hb hg hat
                        refine hK.out _ _ ⟨(blk_cell BK183.out 0).trans rfl, (blk_cell BK183.out 1).trans rfl, (blk_cell BK183.out 2).trans rfl, (blk_cell BK189.out 0).trans rfl, (blk_cell BK189.out 1).trans rfl⟩ (fun hHeld => ?_)
                        clear hK K
                        refine norm_ (a' := ?_) ?_ ?_
                        rotate_left
                        · show Act.put _ (some 39) _ = _
                          simp only [Act.put, List.setIfInBounds_toArray, List.set_cons_zero, List.set_cons_succ, i64_w, i32_w]
                          rfl
                        exact norm_ (by first | (simp only [putAll, Act.put, List.setIfInBounds_toArray, List.set_cons_zero, List.set_cons_succ]; done) | (simp only [putAll, Act.put, List.setIfInBounds_toArray, List.set_cons_zero, List.set_cons_succ]; rfl)) (hJ3_4_8_9_13 (v191, v194, .slice Ao54 y196.length co54, v200, v203) _ ⟨hHeld, (xr HO192.out), (xr HO195.out), (by (with_reducible repeat (first | apply Kd.R_alloc | apply Kd.R_drewN | apply Kd.R_drew)); exact Kd.R_mono HO198.out (fun _ hk => ⟨hk.2, ⟨hk.1.2, hk.1.1⟩⟩)), (by (with_reducible repeat (first | apply Kd.R_alloc | apply Kd.R_drewN | apply Kd.R_drew)); exact Kd.R_mono HO201.out (fun _ hk => ⟨hk.2.1, ⟨hk.2.2, hk.1⟩⟩)), (by (with_reducible repeat (first | apply Kd.R_alloc | apply Kd.R_drewN | apply Kd.R_drew)); exact Kd.R_mono HO204.out (fun _ hk => ⟨hk.1.2, ⟨hk.2, hk.1.1⟩⟩)), (by (with_reducible repeat (first | apply Kd.R_alloc | apply Kd.R_drewN | apply Kd.R_drew)); exact Kd.R_mono HO_184002.out (fun _ hk => ⟨hk.1.1, ⟨hk.2, hk.1.2⟩⟩)), (xb BK177.out), (xb BK178.out), (xb BK179.out), (xb BK183.out), (xb BK189.out), (xs HB.out)⟩)
                    · skip
                      rintro ⟨v191, v194, v197, v200⟩ w52 ⟨hS_, h0_, h1_, h2_, h3_, h4_, h5_, h6_, h7_, h8_, h9_, h10_⟩
                      have n0_ : Aside0 (Kd.R k31 31 w52 w.heap.size (fun k_ => some k_ ≠ (v194 : Value).ownBlock ∧ k_ ≠ gb178 ∧ k_ ≠ gb189) v191 y190) := ⟨h0_⟩
                      have n1_ : Aside0 (Kd.R k31 31 w52 w.heap.size (fun k_ => some k_ ≠ (v191 : Value).ownBlock ∧ k_ ≠ gb178 ∧ k_ ≠ gb189) v194 y193) := ⟨h1_⟩
                      have n2_ : Aside0 (Kd.R (Kd.int .i64) 3 w52 w.heap.size (fun k_ => some k_ ≠ (v200 : Value).ownBlock ∧ some k_ ≠ (.slice Ao41 x184002_1.length co41 : Value).ownBlock) v197 y196) := ⟨h2_⟩
                      have n3_ : Aside0 (Kd.R (Kd.int .i64) 3 w52 w.heap.size (fun k_ => some k_ ≠ (v197 : Value).ownBlock ∧ some k_ ≠ (.slice Ao41 x184002_1.length co41 : Value).ownBlock) v200 y199) := ⟨h3_⟩
                      have n4_ : Aside0 (Kd.R (Kd.int .i64) 3 w52 w.heap.size (fun k_ => some k_ ≠ (v197 : Value).ownBlock ∧ some k_ ≠ (v200 : Value).ownBlock) (.slice Ao41 x184002_1.length co41) x184002_1) := ⟨h4_⟩
                      have n5_ : Aside0 (w52.heap[gb177]? = some (.cells #[.int .i64 a0_0, .int .i64 a0_1, .int .i64 a0_2, .int .i64 a0_3] 29 (0, 0))) := ⟨h5_⟩
                      have n6_ : Aside0 (w52.heap[gb178]? = some (.cells #[.int .i64 x179000_1, .bool x179001_1] 31 (0, 0))) := ⟨h6_⟩
                      have n7_ : Aside0 (w52.heap[gb179]? = some (.cells #[.slice none 0 0, .slice none 0 0, .slice none 0 0] 92 (0, 0))) := ⟨h7_⟩
                      have n8_ : Aside0 (w52.heap[gb183]? = some (.cells #[.slice Ao39 x184000_1.length co39, .slice Ao40 x184001_1.length co40, .slice Ao41 x184002_1.length co41] 92 (0, 0))) := ⟨h8_⟩
                      have n9_ : Aside0 (w52.heap[gb189]? = some (.cells #[.int .i64 t185, .bool t186] 31 (0, 0))) := ⟨h9_⟩
                      have n10_ : Aside0 (Below w.heap.size w w52) := ⟨h10_⟩
                      clear HO_184000
                      clear HO_184001
                      clear HO_184002
                      clear BK177
                      clear BK178
                      clear BK179
                      clear BK183
                      clear BK189
                      clear HB
                      clear h0_ h1_ h2_ h3_ h4_ h5_ h6_ h7_ h8_ h9_ h10_
                      have HO192 := n0_
                      have HO195 := n1_
                      have HO198 := n2_
                      have HO201 := n3_
                      have HO_184002 := n4_
                      have BK177 := n5_
                      have BK178 := n6_
                      have BK179 := n7_
                      have BK183 := n8_
                      have BK189 := n9_
                      have HB := n10_
                      clear n0_ n1_ n2_ n3_ n4_ n5_ n6_ n7_ n8_ n9_ n10_
                      have hHeld : w52.cell? ⟨gb183, 0, none⟩ = some (.slice Ao39 x184000_1.length co39) ∧ w52.cell? ⟨gb183, 1, none⟩ = some (.slice Ao40 x184001_1.length co40) ∧ w52.cell? ⟨gb183, 2, none⟩ = some (.slice Ao41 x184002_1.length co41) ∧ w52.cell? ⟨gb189, 0, none⟩ = some (.int .i64 t185) ∧ w52.cell? ⟨gb189, 1, none⟩ = some (.bool t186) := hS_
                      refine norm_ (a' := ?_) ?_ ?_
                      rotate_left
                      · simp only [putAll, Act.put, List.setIfInBounds_toArray, List.set_cons_zero, List.set_cons_succ]
                        rfl
                      refine one_ (i := 13) (N := some 43) #[true, true, true, true, true, true, true, true, true, true, true, true, true, true, false, true, false, false, false, false, false] rfl rfl (one_of HT_.out (by kernel_rfl)) (by decide) (fun K hK => ?_)
                      refine Kd.R_lit_step (Kd.int .i64) _ 3 ?hg (N := 43) ?hd (xs := ([t188] : List Int)) (inner := [.int .i64 t188]) (ok := fun _ => True) (okp := fun _ => True) ?hr ?hp (fun _ hk => hk) trivial (Below.refl _ _) (Nat.le_refl _) (by simp) ?_; (case hd => rfl); (case hg => rfl); (case hr => first | (go_simp; done) | (go_simp; rfl)); (case hp => exact (Reps.one (show Kd.M (Kd.int .i64) _ _ _ t188 [.int .i64 t188] from rfl) (Reps.none _ _)))
                      intro v203 w53 ho54 hb hg_ hnew_
                      clear hg_ hnew_
                      (first | rw [← Ny202.out] at ho54 | (simp only [Int.reduceToNat] at ho54; rw [← Ny202.out] at ho54))
                      have n0_ := Aside0.mk (Kd.R_elder' (xr HO_184002.out) (Kd.R_base ho54) hb)
                      have n1_ := Aside0.mk (Kd.R_below (xr HO192.out) hb)
                      have n2_ := Aside0.mk (Kd.R_below (xr HO195.out) hb)
                      have n3_ := Aside0.mk (Kd.R_elder' (xr HO198.out) (Kd.R_base ho54) hb)
                      have n4_ := Aside0.mk (Kd.R_elder' (xr HO201.out) (Kd.R_base ho54) hb)
                      have n5_ := Aside0.mk (Kd.R_lower (Kd.R_new' (Kd.R_new' (Kd.R_new' ho54 (Kd.R_lt (xr HO_184002.out))) (Kd.R_lt (xr HO198.out))) (Kd.R_lt (xr HO201.out))) (below_size (xs HB.out)))
                      have n6_ := Aside0.mk (blk_below (g := gb177) (o := .cells #[.int .i64 a0_0, .int .i64 a0_1, .int .i64 a0_2, .int .i64 a0_3] 29 (0, 0)) (xb BK177.out) hb)
                      have n7_ := Aside0.mk (blk_below (g := gb178) (o := .cells #[.int .i64 x179000_1, .bool x179001_1] 31 (0, 0)) (xb BK178.out) hb)
                      have n8_ := Aside0.mk (blk_below (g := gb179) (o := .cells #[.slice none 0 0, .slice none 0 0, .slice none 0 0] 92 (0, 0)) (xb BK179.out) hb)
                      have n9_ := Aside0.mk (blk_below (g := gb183) (o := .cells #[.slice Ao39 x184000_1.length co39, .slice Ao40 x184001_1.length co40, .slice Ao41 x184002_1.length co41] 92 (0, 0)) (xb BK183.out) hb)
                      have n10_ := Aside0.mk (blk_below (g := gb189) (o := .cells #[.int .i64 t185, .bool t186] 31 (0, 0)) (xb BK189.out) hb)
                      have n11_ := Aside0.mk (below_step (xs HB.out) hb)
                      clear HO_184002
                      clear HO192
                      clear HO195
                      clear HO198
                      clear HO201
                      clear BK177
                      clear BK178
                      clear BK179
                      clear BK183
                      clear BK189
                      clear HB
                      have HO_184002 := n0_
                      have HO192 := n1_
                      have HO195 := n2_
                      have HO198 := n3_
                      have HO201 := n4_
                      have HO204 := n5_
                      have BK177 := n6_
                      have BK178 := n7_
                      have BK179 := n8_
                      have BK183 := n9_
                      have BK189 := n10_
                      have HB := n11_
                      clear n0_ n1_ n2_ n3_ n4_ n5_ n6_ n7_ n8_ n9_ n10_ n11_
                      clear hb ho54
                      refine hK.out _ _ ⟨(blk_cell BK183.out 0).trans rfl, (blk_cell BK183.out 1).trans rfl, (blk_cell BK183.out 2).trans rfl, (blk_cell BK189.out 0).trans rfl, (blk_cell BK189.out 1).trans rfl⟩ (fun hHeld => ?_)
                      clear hK K
                      refine norm_ (a' := ?_) ?_ ?_
                      rotate_left
                      · show Act.put _ (some 43) _ = _
                        simp only [Act.put, List.setIfInBounds_toArray, List.set_cons_zero, List.set_cons_succ, i64_w, i32_w]
                        rfl
                      exact norm_ (by first | (simp only [putAll, Act.put, List.setIfInBounds_toArray, List.set_cons_zero, List.set_cons_succ]; done) | (simp only [putAll, Act.put, List.setIfInBounds_toArray, List.set_cons_zero, List.set_cons_succ]; rfl)) (hJ3_4_8_9_13 (v191, v194, v197, v200, v203) _ ⟨hHeld, (xr HO192.out), (xr HO195.out), (by (with_reducible repeat (first | apply Kd.R_alloc | apply Kd.R_drewN | apply Kd.R_drew)); exact Kd.R_mono HO198.out (fun _ hk => ⟨hk.1.1, ⟨hk.2, hk.1.2⟩⟩)), (by (with_reducible repeat (first | apply Kd.R_alloc | apply Kd.R_drewN | apply Kd.R_drew)); exact Kd.R_mono HO201.out (fun _ hk => ⟨hk.1.1, ⟨hk.2, hk.1.2⟩⟩)), (by (with_reducible repeat (first | apply Kd.R_alloc | apply Kd.R_drewN | apply Kd.R_drew)); exact Kd.R_mono HO204.out (fun _ hk => ⟨hk.1.2, ⟨hk.2, hk.1.1.2⟩⟩)), (by (with_reducible repeat (first | apply Kd.R_alloc | apply Kd.R_drewN | apply Kd.R_drew)); exact Kd.R_mono HO_184002.out (fun _ hk => ⟨hk.1.1, ⟨hk.1.2, hk.2⟩⟩)), (xb BK177.out), (xb BK178.out), (xb BK179.out), (xb BK183.out), (xb BK189.out), (xs HB.out)⟩)
                  rintro ⟨v191, v194, v197, v200, v203⟩ w54 ⟨hS_, h0_, h1_, h2_, h3_, h4_, h5_, h6_, h7_, h8_, h9_, h10_, h11_⟩
                  have n0_ : Aside0 (Kd.R k31 31 w54 w.heap.size (fun k_ => some k_ ≠ (v194 : Value).ownBlock ∧ k_ ≠ gb178 ∧ k_ ≠ gb189) v191 y190) := ⟨h0_⟩
                  have n1_ : Aside0 (Kd.R k31 31 w54 w.heap.size (fun k_ => some k_ ≠ (v191 : Value).ownBlock ∧ k_ ≠ gb178 ∧ k_ ≠ gb189) v194 y193) := ⟨h1_⟩
                  have n2_ : Aside0 (Kd.R (Kd.int .i64) 3 w54 w.heap.size (fun k_ => some k_ ≠ (v200 : Value).ownBlock ∧ some k_ ≠ (v203 : Value).ownBlock ∧ some k_ ≠ (.slice Ao41 x184002_1.length co41 : Value).ownBlock) v197 y196) := ⟨h2_⟩
                  have n3_ : Aside0 (Kd.R (Kd.int .i64) 3 w54 w.heap.size (fun k_ => some k_ ≠ (v197 : Value).ownBlock ∧ some k_ ≠ (v203 : Value).ownBlock ∧ some k_ ≠ (.slice Ao41 x184002_1.length co41 : Value).ownBlock) v200 y199) := ⟨h3_⟩
                  have n4_ : Aside0 (Kd.R (Kd.int .i64) 3 w54 w.heap.size (fun k_ => some k_ ≠ (v197 : Value).ownBlock ∧ some k_ ≠ (v200 : Value).ownBlock ∧ some k_ ≠ (.slice Ao41 x184002_1.length co41 : Value).ownBlock) v203 y202) := ⟨h4_⟩
                  have n5_ : Aside0 (Kd.R (Kd.int .i64) 3 w54 w.heap.size (fun k_ => some k_ ≠ (v197 : Value).ownBlock ∧ some k_ ≠ (v200 : Value).ownBlock ∧ some k_ ≠ (v203 : Value).ownBlock) (.slice Ao41 x184002_1.length co41) x184002_1) := ⟨h5_⟩
                  have n6_ : Aside0 (w54.heap[gb177]? = some (.cells #[.int .i64 a0_0, .int .i64 a0_1, .int .i64 a0_2, .int .i64 a0_3] 29 (0, 0))) := ⟨h6_⟩
                  have n7_ : Aside0 (w54.heap[gb178]? = some (.cells #[.int .i64 x179000_1, .bool x179001_1] 31 (0, 0))) := ⟨h7_⟩
                  have n8_ : Aside0 (w54.heap[gb179]? = some (.cells #[.slice none 0 0, .slice none 0 0, .slice none 0 0] 92 (0, 0))) := ⟨h8_⟩
                  have n9_ : Aside0 (w54.heap[gb183]? = some (.cells #[.slice Ao39 x184000_1.length co39, .slice Ao40 x184001_1.length co40, .slice Ao41 x184002_1.length co41] 92 (0, 0))) := ⟨h9_⟩
                  have n10_ : Aside0 (w54.heap[gb189]? = some (.cells #[.int .i64 t185, .bool t186] 31 (0, 0))) := ⟨h10_⟩
                  have n11_ : Aside0 (Below w.heap.size w w54) := ⟨h11_⟩
                  clear HO_184000
                  clear HO_184001
                  clear HO_184002
                  clear BK177
                  clear BK178
                  clear BK179
                  clear BK183
                  clear BK189
                  clear HB
                  clear h0_ h1_ h2_ h3_ h4_ h5_ h6_ h7_ h8_ h9_ h10_ h11_
                  have HO192 := n0_
                  have HO195 := n1_
                  have HO198 := n2_
                  have HO201 := n3_
                  have HO204 := n4_
                  have HO_184002 := n5_
                  have BK177 := n6_
                  have BK178 := n7_
                  have BK179 := n8_
                  have BK183 := n9_
                  have BK189 := n10_
                  have HB := n11_
                  clear n0_ n1_ n2_ n3_ n4_ n5_ n6_ n7_ n8_ n9_ n10_ n11_
                  have hHeld : w54.cell? ⟨gb183, 0, none⟩ = some (.slice Ao39 x184000_1.length co39) ∧ w54.cell? ⟨gb183, 1, none⟩ = some (.slice Ao40 x184001_1.length co40) ∧ w54.cell? ⟨gb183, 2, none⟩ = some (.slice Ao41 x184002_1.length co41) ∧ w54.cell? ⟨gb189, 0, none⟩ = some (.int .i64 t185) ∧ w54.cell? ⟨gb189, 1, none⟩ = some (.bool t186) := hS_
                  obtain ⟨Ao56, co56, eo56⟩ := Kd.R_slice HO204.out
                  (first | subst eo56 | (injection eo56 with f1_ f2_ f3_; have f4_ := f1_.symm; have f5_ := f3_.symm; clear f1_ f2_ f3_; subst f4_; subst f5_))
                  refine norm_ (a' := ?_) ?_ ?_
                  rotate_left
                  · simp only [putAll, Act.put, List.setIfInBounds_toArray, List.set_cons_zero, List.set_cons_succ]
                    rfl
                  refine one_ (i := 14) (N := some 44) #[true, true, true, true, true, true, true, true, true, true, true, true, true, true, true, true, false, false, false, false, false] rfl rfl (one_of HT_.out (by kernel_rfl)) (by decide) (fun K hK => ?_)
                  refine Kd.R_append_rows_step (Kd.int .i64) (w0 := w) w.heap.size (by rfl) (.tmp 41) (.tmp 43) 26 3 (.int .i64 0) 8 rfl Try.underlying26 info3 rfl (by decide) (by omega) (.slice Ao41 x184002_1.length co41) x184002_1 y202 _ _ _ (fun k_ => some k_ ≠ (v197 : Value).ownBlock ∧ some k_ ≠ (v200 : Value).ownBlock ∧ some k_ ≠ (.slice Ao56 y202.length co56 : Value).ownBlock) (fun _ => False) rfl rfl ?aO ?aR (fun _ _ h => h) (fun _ h => h.elim) ?aF ?aB ?aS ?aL ?_
                  (case aR => repeat (first | exact (Kd.R_reads' HO204.out).2.2 | (with_reducible refine Kd.C_alloc ?_ _) | (with_reducible refine Kd.C_drewN ?_ _) | (with_reducible refine Kd.C_drew ?_)))
                  (case aB => exact (xs HB.out))
                  (case aF => exact (fun k_ hk => ⟨Kd.fresh' (Kd.R_lt (xr HO198.out)) k_ hk, Kd.fresh' (Kd.R_lt (xr HO201.out)) k_ hk, Kd.fresh' (Kd.R_lt (xr HO204.out)) k_ hk⟩))
                  (case aO => exact (xr HO_184002.out))
                  (case aS => exact (below_size (xs HB.out)))
                  (case aL => have := LMc24.out; omega)
                  intro v206 w55 ho hb hg hat
                  rw [← Ny205.out] at ho
                  have n0_ := Aside0.mk (blk_grown (g := gb177) (o := .cells #[.int .i64 a0_0, .int .i64 a0_1, .int .i64 a0_2, .int .i64 a0_3] 29 (0, 0)) (xb BK177.out) hg (Kd.R_ne HO_184002.out BK177.out (by decide)))
                  have n1_ := Aside0.mk (blk_grown (g := gb178) (o := .cells #[.int .i64 x179000_1, .bool x179001_1] 31 (0, 0)) (xb BK178.out) hg (Kd.R_ne HO_184002.out BK178.out (by decide)))
                  have n2_ := Aside0.mk (blk_grown (g := gb179) (o := .cells #[.slice none 0 0, .slice none 0 0, .slice none 0 0] 92 (0, 0)) (xb BK179.out) hg (Kd.R_ne HO_184002.out BK179.out (by decide)))
                  have n3_ := Aside0.mk (blk_grown (g := gb183) (o := .cells #[.slice Ao39 x184000_1.length co39, .slice Ao40 x184001_1.length co40, .slice Ao41 x184002_1.length co41] 92 (0, 0)) (xb BK183.out) hg (Kd.R_ne HO_184002.out BK183.out (by decide)))
                  have n4_ := Aside0.mk (blk_grown (g := gb189) (o := .cells #[.int .i64 t185, .bool t186] 31 (0, 0)) (xb BK189.out) hg (Kd.R_ne HO_184002.out BK189.out (by decide)))
                  have n5_ := Aside0.mk (Kd.R_over' (xr HO192.out) (Kd.R_typed (xr HO_184002.out)) (by decide) hg)
                  have n6_ := Aside0.mk (Kd.R_over' (xr HO195.out) (Kd.R_typed (xr HO_184002.out)) (by decide) hg)
                  have n7_ := Aside0.mk (Kd.R_after (ok := (fun k_ => some k_ ≠ (v200 : Value).ownBlock ∧ some k_ ≠ (.slice Ao56 y202.length co56 : Value).ownBlock)) (by (with_reducible repeat (first | apply Kd.R_alloc | apply Kd.R_drewN | apply Kd.R_drew)); exact Kd.R_mono HO198.out (fun _ hk => ⟨⟨hk.1, hk.2.1⟩, hk.2.2⟩)) hg hat)
                  have n8_ := Aside0.mk (Kd.R_after (ok := (fun k_ => some k_ ≠ (v197 : Value).ownBlock ∧ some k_ ≠ (.slice Ao56 y202.length co56 : Value).ownBlock)) (by (with_reducible repeat (first | apply Kd.R_alloc | apply Kd.R_drewN | apply Kd.R_drew)); exact Kd.R_mono HO201.out (fun _ hk => ⟨⟨hk.1, hk.2.1⟩, hk.2.2⟩)) hg hat)
                  have n9_ := Aside0.mk (Kd.R_after (ok := (fun k_ => some k_ ≠ (v197 : Value).ownBlock ∧ some k_ ≠ (v200 : Value).ownBlock)) (by (with_reducible repeat (first | apply Kd.R_alloc | apply Kd.R_drewN | apply Kd.R_drew)); exact Kd.R_mono HO204.out (fun _ hk => ⟨⟨hk.1, hk.2.1⟩, hk.2.2⟩)) hg hat)
                  have n10_ := Aside0.mk (hb)
                  have n11_ := Aside0.mk (ho)
                  clear BK177
                  clear BK178
                  clear BK179
                  clear BK183
                  clear BK189
                  clear HO192
                  clear HO195
                  clear HO198
                  clear HO201
                  clear HO204
                  clear HB
                  clear HO_184002
                  have BK177 := n0_
                  have BK178 := n1_
                  have BK179 := n2_
                  have BK183 := n3_
                  have BK189 := n4_
                  have HO192 := n5_
                  have HO195 := n6_
                  have HO198 := n7_
                  have HO201 := n8_
                  have HO204 := n9_
                  have HB := n10_
                  have HO207 := n11_
                  clear n0_ n1_ n2_ n3_ n4_ n5_ n6_ n7_ n8_ n9_ n10_ n11_
                  clear ho hb hg hat
                  obtain ⟨Ao57, co57, eo57⟩ := Kd.R_slice HO195.out
                  (first | subst eo57 | (injection eo57 with f1_ f2_ f3_; have f4_ := f1_.symm; have f5_ := f3_.symm; clear f1_ f2_ f3_; subst f4_; subst f5_))
                  obtain ⟨Ao59, co59, eo59⟩ := Kd.R_slice HO201.out
                  (first | subst eo59 | (injection eo59 with f1_ f2_ f3_; have f4_ := f1_.symm; have f5_ := f3_.symm; clear f1_ f2_ f3_; subst f4_; subst f5_))
                  obtain ⟨Ao61, co61, eo61⟩ := Kd.R_slice HO207.out
                  (first | subst eo61 | (injection eo61 with f1_ f2_ f3_; have f4_ := f1_.symm; have f5_ := f3_.symm; clear f1_ f2_ f3_; subst f4_; subst f5_))
                  refine hK.out _ _ ⟨(blk_cell BK183.out 0).trans rfl, (blk_cell BK183.out 1).trans rfl, (blk_cell BK183.out 2).trans rfl, (blk_cell BK189.out 0).trans rfl, (blk_cell BK189.out 1).trans rfl⟩ (fun hHeld => ?_)
                  clear hK K
                  refine norm_ (a' := ?_) ?_ ?_
                  rotate_left
                  · show Act.put _ (some 44) _ = _
                    simp only [Act.put, List.setIfInBounds_toArray, List.set_cons_zero, List.set_cons_succ, i64_w, i32_w]
                    rfl
                  refine last_ (i := 16) (N := none) #[true, true, true, true, true, true, true, true, true, true, true, true, true, true, true, true, true, false, false, false, false] rfl rfl (one_of HT_.out (by kernel_rfl)) (by decide) (fun K hK => ?_)
                  have hs58 : w55.cell? ⟨gb183, 0, none⟩ = some (.slice Ao39 x184000_1.length co39) := (blk_cell BK183.out 0).trans rfl
                  have hfs58 := blk_frozen BK183.out 0
                  have hns58_0 := NB177_183.out
                  have hns58_1 := NB178_183.out
                  have hns58_2 := NB179_183.out
                  have hns58_4 := NB189_183.out
                  have hms58_0 := NB183_177.out
                  have hms58_1 := NB183_178.out
                  have hms58_2 := NB183_179.out
                  have hms58_4 := NB183_189.out
                  refine skip_ (w1 := ?_) (by rfl) rfl ?_ ?_
                  rotate_left
                  · go_simp
                    rfl
                  refine hK.out _ _ ?_
                  clear hK K
                  refine pure_ (i := 17) (N := some 46) (v := ?_) (a' := ?_) #[true, true, true, true, true, true, true, true, true, true, true, true, true, true, true, true, true, true, false, false, false] rfl rfl (any_of HT_.out (by kernel_rfl)) (fun _ _ _ h => h) (Or.inl ⟨by rfl, ?_⟩) ?_ ?_
                  rotate_left
                  · intro w'
                    go_simp
                    with_reducible rfl
                  rotate_left
                  · simp only [Act.put, List.setIfInBounds_toArray, List.set_cons_zero, List.set_cons_succ, i64_w, i32_w]
                    rfl
                  refine last_ (i := 18) (N := none) #[true, true, true, true, true, true, true, true, true, true, true, true, true, true, true, true, true, true, true, false, false] rfl rfl (one_of HT_.out (by kernel_rfl)) (by decide) (fun K hK => ?_)
                  have hs60 : w55.cell? ⟨gb183, 1, none⟩ = some (.slice Ao40 x184001_1.length co40) := (blk_cell BK183.out 1).trans rfl
                  have hfs60 := blk_frozen BK183.out 1
                  have hns60_0 := NB177_183.out
                  have hns60_1 := NB178_183.out
                  have hns60_2 := NB179_183.out
                  have hns60_4 := NB189_183.out
                  have hms60_0 := NB183_177.out
                  have hms60_1 := NB183_178.out
                  have hms60_2 := NB183_179.out
                  have hms60_4 := NB183_189.out
                  refine skip_ (w1 := ?_) (by rfl) rfl ?_ ?_
                  rotate_left
                  · go_simp
                    rfl
                  refine hK.out _ _ ?_
                  clear hK K
                  refine pure_ (i := 19) (N := some 47) (v := ?_) (a' := ?_) #[true, true, true, true, true, true, true, true, true, true, true, true, true, true, true, true, true, true, true, true, false] rfl rfl (any_of HT_.out (by kernel_rfl)) (fun _ _ _ h => h) (Or.inl ⟨by rfl, ?_⟩) ?_ ?_
                  rotate_left
                  · intro w'
                    go_simp
                    with_reducible rfl
                  rotate_left
                  · simp only [Act.put, List.setIfInBounds_toArray, List.set_cons_zero, List.set_cons_succ, i64_w, i32_w]
                    rfl
                  refine last_ (i := 20) (N := none) #[true, true, true, true, true, true, true, true, true, true, true, true, true, true, true, true, true, true, true, true, true] rfl rfl (one_of HT_.out (by kernel_rfl)) (by decide) (fun K hK => ?_)
                  have hs62 : w55.cell? ⟨gb183, 2, none⟩ = some (.slice Ao41 x184002_1.length co41) := (blk_cell BK183.out 2).trans rfl
                  have hfs62 := blk_frozen BK183.out 2
                  have hns62_0 := NB177_183.out
                  have hns62_1 := NB178_183.out
                  have hns62_2 := NB179_183.out
                  have hns62_4 := NB189_183.out
                  have hms62_0 := NB183_177.out
                  have hms62_1 := NB183_178.out
                  have hms62_2 := NB183_179.out
                  have hms62_4 := NB183_189.out
                  refine skip_ (w1 := ?_) (by rfl) rfl ?_ ?_
                  rotate_left
                  · go_simp
                    rfl
                  refine hK.out _ _ ?_
                  clear hK K
                  refine done_ (done_of HT_.out (by kernel_rfl)) ?_
                  have hcz63_0 : w55.cell? ⟨gb189, 0, none⟩ = some (.int .i64 t185) := (blk_cell BK189.out 0).trans rfl
                  have hcz63_1 : w55.cell? ⟨gb189, 1, none⟩ = some (.bool t186) := (blk_cell BK189.out 1).trans rfl
                  have hfz63_0 := blk_frozen BK189.out 0
                  have hfz63_1 := blk_frozen BK189.out 1
                  have hcz64_0 : w55.cell? ⟨gb178, 0, none⟩ = some (.int .i64 x179000_1) := (blk_cell BK178.out 0).trans rfl
                  have hcz64_1 : w55.cell? ⟨gb178, 1, none⟩ = some (.bool x179001_1) := (blk_cell BK178.out 1).trans rfl
                  have hfz64_0 := blk_frozen BK178.out 0
                  have hfz64_1 := blk_frozen BK178.out 1
                  try go_wp2
                  go_roundg k1
                  case measure => have := HK1.out; omega
                  case rel => exact ⟨(wrap64 (x18_1 + 1)), (t185), (t186), (y193), (y199), (y205), (.slice Ao57 y193.length co57), (.slice Ao59 y199.length co59), (.slice Ao61 y205.length co61), (by first | rfl | (simp; done) | (simp [*]; done)), H', ⟨by have := HK1.out; omega⟩, ⟨by (with_reducible repeat (first | apply Kd.R_alloc | apply Kd.R_drewN | apply Kd.R_drew)); exact Kd.R_mono (Kd.R_far (p := ⟨gb178, 1, none⟩) (Kd.R_far (p := ⟨gb178, 0, none⟩) (Kd.R_far (p := ⟨gb183, 2, none⟩) (Kd.R_far (p := ⟨gb183, 1, none⟩) (Kd.R_far (p := ⟨gb183, 0, none⟩) (Kd.R_mono (Kd.R_types HO195.out BK183.out (by decide)) (fun k_ hk => (⟨hk, hk.1.2.1⟩ : _ ∧ k_ ≠ gb178))) (fun _ hk => hk.1.2) (.slice Ao57 y193.length co57)) (fun _ hk => hk.1.2) (.slice Ao59 y199.length co59)) (fun _ hk => hk.1.2) (.slice Ao61 y205.length co61)) (fun _ hk => hk.2) (.int .i64 t185)) (fun _ hk => hk.2) (.bool t186)) (fun _ hk => hk.1.1.2.1)⟩, ⟨by (with_reducible repeat (first | apply Kd.R_alloc | apply Kd.R_drewN | apply Kd.R_drew)); exact Kd.R_mono (Kd.R_far (p := ⟨gb178, 1, none⟩) (Kd.R_far (p := ⟨gb178, 0, none⟩) (Kd.R_far (p := ⟨gb183, 2, none⟩) (Kd.R_far (p := ⟨gb183, 1, none⟩) (Kd.R_far (p := ⟨gb183, 0, none⟩) (Kd.R_types (Kd.R_types HO201.out BK183.out (by decide)) BK178.out (by decide)) (fun _ hk => hk.1.2) (.slice Ao57 y193.length co57)) (fun _ hk => hk.1.2) (.slice Ao59 y199.length co59)) (fun _ hk => hk.1.2) (.slice Ao61 y205.length co61)) (fun _ hk => hk.2) (.int .i64 t185)) (fun _ hk => hk.2) (.bool t186)) (fun _ hk => hk.1.1.2)⟩, ⟨by (with_reducible repeat (first | apply Kd.R_alloc | apply Kd.R_drewN | apply Kd.R_drew)); exact Kd.R_mono (Kd.R_far (p := ⟨gb178, 1, none⟩) (Kd.R_far (p := ⟨gb178, 0, none⟩) (Kd.R_far (p := ⟨gb183, 2, none⟩) (Kd.R_far (p := ⟨gb183, 1, none⟩) (Kd.R_far (p := ⟨gb183, 0, none⟩) (Kd.R_types (Kd.R_types HO207.out BK183.out (by decide)) BK178.out (by decide)) (fun _ hk => hk.1.2) (.slice Ao57 y193.length co57)) (fun _ hk => hk.1.2) (.slice Ao59 y199.length co59)) (fun _ hk => hk.1.2) (.slice Ao61 y205.length co61)) (fun _ hk => hk.2) (.int .i64 t185)) (fun _ hk => hk.2) (.bool t186)) (fun _ hk => hk.1.1.2.1)⟩, ⟨by (with_reducible repeat (first | refine blk_drewN ?_ _ | refine blk_drew ?_ | refine blk_alloc ?_ _)); refine blk_far ?_ NB177_178.out _; (with_reducible repeat (first | refine blk_drewN ?_ _ | refine blk_drew ?_ | refine blk_alloc ?_ _)); refine blk_far ?_ NB177_178.out _; (with_reducible repeat (first | refine blk_drewN ?_ _ | refine blk_drew ?_ | refine blk_alloc ?_ _)); refine blk_far ?_ NB177_183.out _; (with_reducible repeat (first | refine blk_drewN ?_ _ | refine blk_drew ?_ | refine blk_alloc ?_ _)); refine blk_far ?_ NB177_183.out _; (with_reducible repeat (first | refine blk_drewN ?_ _ | refine blk_drew ?_ | refine blk_alloc ?_ _)); refine blk_far ?_ NB177_183.out _; (with_reducible repeat (first | refine blk_drewN ?_ _ | refine blk_drew ?_ | refine blk_alloc ?_ _)); exact BK177.out⟩, ⟨by (with_reducible repeat (first | refine blk_drewN ?_ _ | refine blk_drew ?_ | refine blk_alloc ?_ _)); refine blk_put (cs := #[.int .i64 t185, .bool x179001_1]) ?_ 1 _ rfl; (with_reducible repeat (first | refine blk_drewN ?_ _ | refine blk_drew ?_ | refine blk_alloc ?_ _)); refine blk_put (cs := #[.int .i64 x179000_1, .bool x179001_1]) ?_ 0 _ rfl; (with_reducible repeat (first | refine blk_drewN ?_ _ | refine blk_drew ?_ | refine blk_alloc ?_ _)); refine blk_far ?_ NB178_183.out _; (with_reducible repeat (first | refine blk_drewN ?_ _ | refine blk_drew ?_ | refine blk_alloc ?_ _)); refine blk_far ?_ NB178_183.out _; (with_reducible repeat (first | refine blk_drewN ?_ _ | refine blk_drew ?_ | refine blk_alloc ?_ _)); refine blk_far ?_ NB178_183.out _; (with_reducible repeat (first | refine blk_drewN ?_ _ | refine blk_drew ?_ | refine blk_alloc ?_ _)); exact BK178.out⟩, ⟨by (with_reducible repeat (first | refine blk_drewN ?_ _ | refine blk_drew ?_ | refine blk_alloc ?_ _)); refine blk_far ?_ NB179_178.out _; (with_reducible repeat (first | refine blk_drewN ?_ _ | refine blk_drew ?_ | refine blk_alloc ?_ _)); refine blk_far ?_ NB179_178.out _; (with_reducible repeat (first | refine blk_drewN ?_ _ | refine blk_drew ?_ | refine blk_alloc ?_ _)); refine blk_far ?_ NB179_183.out _; (with_reducible repeat (first | refine blk_drewN ?_ _ | refine blk_drew ?_ | refine blk_alloc ?_ _)); refine blk_far ?_ NB179_183.out _; (with_reducible repeat (first | refine blk_drewN ?_ _ | refine blk_drew ?_ | refine blk_alloc ?_ _)); refine blk_far ?_ NB179_183.out _; (with_reducible repeat (first | refine blk_drewN ?_ _ | refine blk_drew ?_ | refine blk_alloc ?_ _)); exact BK179.out⟩, ⟨by (with_reducible repeat (first | refine blk_drewN ?_ _ | refine blk_drew ?_ | refine blk_alloc ?_ _)); refine blk_far ?_ NB183_178.out _; (with_reducible repeat (first | refine blk_drewN ?_ _ | refine blk_drew ?_ | refine blk_alloc ?_ _)); refine blk_far ?_ NB183_178.out _; (with_reducible repeat (first | refine blk_drewN ?_ _ | refine blk_drew ?_ | refine blk_alloc ?_ _)); refine blk_put (cs := #[.slice Ao57 y193.length co57, .slice Ao59 y199.length co59, .slice Ao41 x184002_1.length co41]) ?_ 2 _ rfl; (with_reducible repeat (first | refine blk_drewN ?_ _ | refine blk_drew ?_ | refine blk_alloc ?_ _)); refine blk_put (cs := #[.slice Ao57 y193.length co57, .slice Ao40 x184001_1.length co40, .slice Ao41 x184002_1.length co41]) ?_ 1 _ rfl; (with_reducible repeat (first | refine blk_drewN ?_ _ | refine blk_drew ?_ | refine blk_alloc ?_ _)); refine blk_put (cs := #[.slice Ao39 x184000_1.length co39, .slice Ao40 x184001_1.length co40, .slice Ao41 x184002_1.length co41]) ?_ 0 _ rfl; (with_reducible repeat (first | refine blk_drewN ?_ _ | refine blk_drew ?_ | refine blk_alloc ?_ _)); exact BK183.out⟩, ⟨xs HB.out⟩⟩
                · rw [if_neg c24] at H
                  exact absurd H (by simp)
              · rw [if_neg c23] at H
                exact absurd H (by simp)
            · rw [if_neg c22] at H
              exact absurd H (by simp)
          · rw [if_neg c20] at H
            exact absurd H (by simp)
        · rw [if_neg c19] at H
          exact absurd H (by simp)
      · rw [if_neg c18] at H
        have c18b0 : decide (x18_1 < (l2.length : Int)) = false := decide_eq_false c18
        clear c18
        simp only [Option.some.injEq, Prod.mk.injEq] at H
        obtain ⟨rfl, rfl, rfl⟩ := H
        have hnb65 := NB183_177.out
        have hnc65 := NB177_183.out
        have hnb66 := NB183_178.out
        have hnc66 := NB178_183.out
        have hnb67 := NB183_179.out
        have hnc67 := NB179_183.out
        have hcz68_0 : wr.cell? ⟨gb183, 0, none⟩ = some (u184000) := (blk_cell BK183.out 0).trans rfl
        have hcz68_1 : wr.cell? ⟨gb183, 1, none⟩ = some (u184001) := (blk_cell BK183.out 1).trans rfl
        have hcz68_2 : wr.cell? ⟨gb183, 2, none⟩ = some (u184002) := (blk_cell BK183.out 2).trans rfl
        have hfz68_0 := blk_frozen BK183.out 0
        have hfz68_1 := blk_frozen BK183.out 1
        have hfz68_2 := blk_frozen BK183.out 2
        obtain ⟨Ao69, co69, eo69⟩ := Kd.R_slice HO_184000.out
        subst eo69
        have hnb70 := NB179_177.out
        have hnc70 := NB177_179.out
        have hnb71 := NB179_178.out
        have hnc71 := NB178_179.out
        have hcz72_0 : wr.cell? ⟨gb179, 0, none⟩ = some (.slice none 0 0) := (blk_cell BK179.out 0).trans rfl
        have hcz72_1 : wr.cell? ⟨gb179, 1, none⟩ = some (.slice none 0 0) := (blk_cell BK179.out 1).trans rfl
        have hcz72_2 : wr.cell? ⟨gb179, 2, none⟩ = some (.slice none 0 0) := (blk_cell BK179.out 2).trans rfl
        have hfz72_0 := blk_frozen BK179.out 0
        have hfz72_1 := blk_frozen BK179.out 1
        have hfz72_2 := blk_frozen BK179.out 2
        obtain ⟨Ao73, co73, eo73⟩ := Kd.R_slice HO_184001.out
        subst eo73
        obtain ⟨Ao74, co74, eo74⟩ := Kd.R_slice HO_184002.out
        subst eo74
        go_wp2
        refine bodyPost_ret (results_cell_row rfl _ _ gb179 92 #[.slice Ao69 x184000_1.length co69, .slice Ao73 x184001_1.length co73, .slice Ao74 x184002_1.length co74] (0, 0) _ rfl (by (with_reducible repeat (first | refine blk_drewN ?_ _ | refine blk_drew ?_ | refine blk_alloc ?_ _)); refine blk_put (cs := #[.slice Ao69 x184000_1.length co69, .slice Ao73 x184001_1.length co73, .slice none 0 0]) ?_ 2 _ rfl; (with_reducible repeat (first | refine blk_drewN ?_ _ | refine blk_drew ?_ | refine blk_alloc ?_ _)); refine blk_put (cs := #[.slice Ao69 x184000_1.length co69, .slice none 0 0, .slice none 0 0]) ?_ 1 _ rfl; (with_reducible repeat (first | refine blk_drewN ?_ _ | refine blk_drew ?_ | refine blk_alloc ?_ _)); refine blk_put (cs := #[.slice none 0 0, .slice none 0 0, .slice none 0 0]) ?_ 0 _ rfl; (with_reducible repeat (first | refine blk_drewN ?_ _ | refine blk_drew ?_ | refine blk_alloc ?_ _)); exact BK179.out) Try.underlying92 rfl (by kernel_rfl)) rfl ?_
        exact ⟨_, _, _, by first | rfl | (simp [errW_none, errW_some] <;> rfl) | (simp [*, errW_none, errW_some] <;> rfl), by (with_reducible repeat (first | apply Kd.R_alloc | apply Kd.R_drewN | apply Kd.R_drew)); exact Kd.R_mono (Kd.R_far (p := ⟨gb179, 2, none⟩) (Kd.R_far (p := ⟨gb179, 1, none⟩) (Kd.R_far (p := ⟨gb179, 0, none⟩) (Kd.R_types HO_184000.out BK179.out (by decide)) (fun _ hk => hk.2) (.slice Ao69 x184000_1.length co69)) (fun _ hk => hk.2) (.slice Ao73 x184001_1.length co73)) (fun _ hk => hk.2) (.slice Ao74 x184002_1.length co74)) (fun _ hk => trivial), by (with_reducible repeat (first | apply Kd.R_alloc | apply Kd.R_drewN | apply Kd.R_drew)); exact Kd.R_mono (Kd.R_far (p := ⟨gb179, 2, none⟩) (Kd.R_far (p := ⟨gb179, 1, none⟩) (Kd.R_far (p := ⟨gb179, 0, none⟩) (Kd.R_types HO_184001.out BK179.out (by decide)) (fun _ hk => hk.2) (.slice Ao69 x184000_1.length co69)) (fun _ hk => hk.2) (.slice Ao73 x184001_1.length co73)) (fun _ hk => hk.2) (.slice Ao74 x184002_1.length co74)) (fun _ hk => hk.1), by (with_reducible repeat (first | apply Kd.R_alloc | apply Kd.R_drewN | apply Kd.R_drew)); exact Kd.R_mono (Kd.R_far (p := ⟨gb179, 2, none⟩) (Kd.R_far (p := ⟨gb179, 1, none⟩) (Kd.R_far (p := ⟨gb179, 0, none⟩) (Kd.R_types HO_184002.out BK179.out (by decide)) (fun _ hk => hk.2) (.slice Ao69 x184000_1.length co69)) (fun _ hk => hk.2) (.slice Ao73 x184001_1.length co73)) (fun _ hk => hk.2) (.slice Ao74 x184002_1.length co74)) (fun _ hk => hk.1), by repeat (first | (with_reducible first | exact HB.out | apply below_alloc | apply pw_below_drewN | apply below_drew1 | refine below_set ?_ GE177.out | refine below_set ?_ GE178.out | refine below_set ?_ GE179.out | refine below_set ?_ GE183.out) | exact HB.out)⟩

end Go.Proofs.Ytminippcikenfaa.PFnExactLevelsOf

/- Lean functions of the Go functions that the law FnExactLevelsOf reaches, and the proofs that the calls come to what they say (made by program). -/
import Derived.Test.YtminippcikenfaaAb
import Derived.Test.YtminippcikenfaaPFnExactLevelsOfx0
import Derived.Test.YtminippcikenfaaPFnExactLevelsOfx1
import Derived.Test.YtminippcikenfaaPFnExactLevelsOfx2
import Derived.Test.YtminippcikenfaaPFnExactLevelsOfx5
namespace Go.Proofs.Ytminippcikenfaa.PFnExactLevelsOf
open Go.RowKit Go.Proofs.YtminippcikenfaaW.PrintWords Go.Proofs.YtminippcikenfaaW.PrintLast Go.Proofs.YtminippcikenfaaW.PrintMore Go.Proofs.Ytminippcikenfaa.Ab
attribute [local go_sem] max2_int min2_int max_two min_two max_three min_three max_four min_four   -- for this text's walks alone
set_option linter.unusedVariables false
set_option linter.unusedSimpArgs false

/-! ### laws_FnExactLevelsOf: function 5 -/
mutual
def laws_FnExactLevelsOf.j0 : Nat → List Int → List (S31) → Bool → List Int → List (S31) → Bool → Bool → Int → Int → Int → Int → Int → Bool → Option (Bool)
  | 0, _, _, _, _, _, _, _, _, _, _, _, _, _ => none
  | k + 1, x2, x7, x8, x9, x10, x11, x49, x231000, x231001, x231002, x231003, x232000, x232001 => if x49 = true then (some false) else ((laws_toIntS.f k x2).bind fun t259 => ((laws_eqIntS.f k x9 t259).bind fun t262 => (if t262 = true then ((laws_markIntS.f k x9 1).bind fun bt263 => (if bt263.1 < 0 then (laws_FnExactLevelsOf.j1 k x2 x7 x8 x10 true x231000 x231001 x231002 x231003 x232000 x232001) else ((laws_eqLevelS.f k x10 x7).bind fun t265 => (if t265 = true then (laws_FnExactLevelsOf.j1 k x2 x7 x8 x10 (x11 != x8) x231000 x231001 x231002 x231003 x232000 x232001) else (laws_FnExactLevelsOf.j1 k x2 x7 x8 x10 true x231000 x231001 x231002 x231003 x232000 x232001))))) else (some false))))
def laws_FnExactLevelsOf.j1 : Nat → List Int → List (S31) → Bool → List (S31) → Bool → Int → Int → Int → Int → Int → Bool → Option (Bool)
  | 0, _, _, _, _, _, _, _, _, _, _, _ => none
  | k + 1, x2, x7, x8, x10, x70, x231000, x231001, x231002, x231003, x232000, x232001 => if x70 = true then (some false) else ((laws_markLevelS.f k x10 1).bind fun bt266 => ((laws_heldLevelS.f k bt266.2 1).bind fun t268 => (if t268 < 0 then (some false) else (if t268 = bt266.1 then ((laws_toSiphon.f x231000 x231001 x231002 x231003).bind fun bt269 => ((laws_toLevel.f x232000 x232001).bind fun bt273 => ((laws_toIntS.f k x2).bind fun t275 => ((impl_LevelsOf.f k bt269.1 bt269.2.1 bt269.2.2.1 bt269.2.2.2 bt273.1 bt273.2 t275).bind fun bt278 => ((laws_eqLevelS.f k bt278.1 x7).bind fun t282 => (if t282 = true then (laws_FnExactLevelsOf.j2 k bt266.2 bt266.1 (bt278.2 != x8)) else (laws_FnExactLevelsOf.j2 k bt266.2 bt266.1 true))))))) else (some false)))))
def laws_FnExactLevelsOf.j2 : Nat → List (S31) → Int → Bool → Option (Bool)
  | 0, _, _, _ => none
  | k + 1, x10, x13, x100 => if x100 = true then (some false) else ((laws_heldLevelS.f k x10 1).bind fun t283 => (if t283 < 0 then (some false) else (if t283 = x13 then (some true) else (some false))))
end
def laws_FnExactLevelsOf.f (k : Nat) (a0_0 : Int) (a0_1 : Int) (a0_2 : Int) (a0_3 : Int) (a1_0 : Int) (a1_1 : Bool) (l2 : List Int) : Option (Bool) := if (l2.length : Int) > 1048576 then (some true) else ((laws_toSiphon.f a0_0 a0_1 a0_2 a0_3).bind fun bt232 => ((laws_toLevel.f a1_0 a1_1).bind fun bt236 => ((laws_toIntS.f k l2).bind fun t238 => ((spec_LevelsOf.f k bt232.1 bt232.2.1 bt232.2.2.1 bt232.2.2.2 bt236.1 bt236.2 t238).bind fun bt241 => ((laws_toIntS.f k l2).bind fun t245 => ((laws_toSiphon.f a0_0 a0_1 a0_2 a0_3).bind fun bt248 => ((laws_toLevel.f a1_0 a1_1).bind fun bt252 => ((impl_LevelsOf.f k bt248.1 bt248.2.1 bt248.2.2.1 bt248.2.2.2 bt252.1 bt252.2 t245).bind fun bt254 => ((laws_eqLevelS.f k bt254.1 bt241.1).bind fun t258 => (if t258 = true then (laws_FnExactLevelsOf.j0 k l2 bt241.1 bt241.2 t245 bt254.1 bt254.2 (bt254.2 != bt241.2) a0_0 a0_1 a0_2 a0_3 a1_0 a1_1) else (laws_FnExactLevelsOf.j0 k l2 bt241.1 bt241.2 t245 bt254.1 bt254.2 true a0_0 a0_1 a0_2 a0_3 a1_0 a1_1)))))))))))
theorem laws_FnExactLevelsOf.mono_l : ∀ k, (∀ y0 y1 y2 y3 y4 y5 y6 y7 y8 y9 y10 y11 y12, LeO (laws_FnExactLevelsOf.j0 k y0 y1 y2 y3 y4 y5 y6 y7 y8 y9 y10 y11 y12) (laws_FnExactLevelsOf.j0 (k + 1) y0 y1 y2 y3 y4 y5 y6 y7 y8 y9 y10 y11 y12)) ∧ (∀ y0 y1 y2 y3 y4 y5 y6 y7 y8 y9 y10, LeO (laws_FnExactLevelsOf.j1 k y0 y1 y2 y3 y4 y5 y6 y7 y8 y9 y10) (laws_FnExactLevelsOf.j1 (k + 1) y0 y1 y2 y3 y4 y5 y6 y7 y8 y9 y10)) ∧ (∀ y0 y1 y2, LeO (laws_FnExactLevelsOf.j2 k y0 y1 y2) (laws_FnExactLevelsOf.j2 (k + 1) y0 y1 y2))
  | 0 => ⟨fun _ _ _ _ _ _ _ _ _ _ _ _ _ r h => by simp [laws_FnExactLevelsOf.j0] at h, fun _ _ _ _ _ _ _ _ _ _ _ r h => by simp [laws_FnExactLevelsOf.j1] at h, fun _ _ _ r h => by simp [laws_FnExactLevelsOf.j2] at h⟩
  | k + 1 => by
    obtain ⟨ih0, ih1, ih2⟩ := laws_FnExactLevelsOf.mono_l k
    refine ⟨?_, ?_, ?_⟩
    · intro y0 y1 y2 y3 y4 y5 y6 y7 y8 y9 y10 y11 y12
      unfold laws_FnExactLevelsOf.j0
      repeat' first
      | (with_reducible exact ih0 _ _ _ _ _ _ _ _ _ _ _ _ _)
      | (with_reducible exact ih1 _ _ _ _ _ _ _ _ _ _ _)
      | (with_reducible exact ih2 _ _ _)
      | (with_reducible exact impl_LevelsOf.mono _ _ _ _ _ _ _ _)
      | (with_reducible exact laws_eqIntS.mono _ _ _)
      | (with_reducible exact laws_eqLevelS.mono _ _ _)
      | (with_reducible exact laws_heldLevelS.mono _ _ _)
      | (with_reducible exact laws_markIntS.mono _ _ _)
      | (with_reducible exact laws_markLevelS.mono _ _ _)
      | (with_reducible exact laws_toIntS.mono _ _)
      | (with_reducible exact spec_LevelsOf.mono _ _ _ _ _ _ _ _)
      | (with_reducible exact LeO.refl _)
      | (with_reducible exact LeO.none _)
      | (with_reducible refine LeO.ite ?_ ?_)
      | (with_reducible refine LeO.bind ?_ (fun _ => ?_))
      | exact ih0 _ _ _ _ _ _ _ _ _ _ _ _ _
      | exact ih1 _ _ _ _ _ _ _ _ _ _ _
      | exact ih2 _ _ _
      | exact impl_LevelsOf.mono _ _ _ _ _ _ _ _
      | exact laws_eqIntS.mono _ _ _
      | exact laws_eqLevelS.mono _ _ _
      | exact laws_heldLevelS.mono _ _ _
      | exact laws_markIntS.mono _ _ _
      | exact laws_markLevelS.mono _ _ _
      | exact laws_toIntS.mono _ _
      | exact spec_LevelsOf.mono _ _ _ _ _ _ _ _
      | exact LeO.none _
      | refine LeO.ite ?_ ?_
      | refine LeO.bind ?_ (fun _ => ?_)
    · intro y0 y1 y2 y3 y4 y5 y6 y7 y8 y9 y10
      unfold laws_FnExactLevelsOf.j1
      repeat' first
      | (with_reducible exact ih0 _ _ _ _ _ _ _ _ _ _ _ _ _)
      | (with_reducible exact ih1 _ _ _ _ _ _ _ _ _ _ _)
      | (with_reducible exact ih2 _ _ _)
      | (with_reducible exact impl_LevelsOf.mono _ _ _ _ _ _ _ _)
      | (with_reducible exact laws_eqIntS.mono _ _ _)
      | (with_reducible exact laws_eqLevelS.mono _ _ _)
      | (with_reducible exact laws_heldLevelS.mono _ _ _)
      | (with_reducible exact laws_markIntS.mono _ _ _)
      | (with_reducible exact laws_markLevelS.mono _ _ _)
      | (with_reducible exact laws_toIntS.mono _ _)
      | (with_reducible exact spec_LevelsOf.mono _ _ _ _ _ _ _ _)
      | (with_reducible exact LeO.refl _)
      | (with_reducible exact LeO.none _)
      | (with_reducible refine LeO.ite ?_ ?_)
      | (with_reducible refine LeO.bind ?_ (fun _ => ?_))
      | exact ih0 _ _ _ _ _ _ _ _ _ _ _ _ _
      | exact ih1 _ _ _ _ _ _ _ _ _ _ _
      | exact ih2 _ _ _
      | exact impl_LevelsOf.mono _ _ _ _ _ _ _ _
      | exact laws_eqIntS.mono _ _ _
      | exact laws_eqLevelS.mono _ _ _
      | exact laws_heldLevelS.mono _ _ _
      | exact laws_markIntS.mono _ _ _
      | exact laws_markLevelS.mono _ _ _
      | exact laws_toIntS.mono _ _
      | exact spec_LevelsOf.mono _ _ _ _ _ _ _ _
      | exact LeO.none _
      | refine LeO.ite ?_ ?_
      | refine LeO.bind ?_ (fun _ => ?_)
    · intro y0 y1 y2
      unfold laws_FnExactLevelsOf.j2
      repeat' first
      | (with_reducible exact ih0 _ _ _ _ _ _ _ _ _ _ _ _ _)
      | (with_reducible exact ih1 _ _ _ _ _ _ _ _ _ _ _)
      | (with_reducible exact ih2 _ _ _)
      | (with_reducible exact impl_LevelsOf.mono _ _ _ _ _ _ _ _)
      | (with_reducible exact laws_eqIntS.mono _ _ _)
      | (with_reducible exact laws_eqLevelS.mono _ _ _)
      | (with_reducible exact laws_heldLevelS.mono _ _ _)
      | (with_reducible exact laws_markIntS.mono _ _ _)
      | (with_reducible exact laws_markLevelS.mono _ _ _)
      | (with_reducible exact laws_toIntS.mono _ _)
      | (with_reducible exact spec_LevelsOf.mono _ _ _ _ _ _ _ _)
      | (with_reducible exact LeO.refl _)
      | (with_reducible exact LeO.none _)
      | (with_reducible refine LeO.ite ?_ ?_)
      | (with_reducible refine LeO.bind ?_ (fun _ => ?_))
      | exact ih0 _ _ _ _ _ _ _ _ _ _ _ _ _
      | exact ih1 _ _ _ _ _ _ _ _ _ _ _
      | exact ih2 _ _ _
      | exact impl_LevelsOf.mono _ _ _ _ _ _ _ _
      | exact laws_eqIntS.mono _ _ _
      | exact laws_eqLevelS.mono _ _ _
      | exact laws_heldLevelS.mono _ _ _
      | exact laws_markIntS.mono _ _ _
      | exact laws_markLevelS.mono _ _ _
      | exact laws_toIntS.mono _ _
      | exact spec_LevelsOf.mono _ _ _ _ _ _ _ _
      | exact LeO.none _
      | refine LeO.ite ?_ ?_
      | refine LeO.bind ?_ (fun _ => ?_)
theorem laws_FnExactLevelsOf.mono : ∀ a0 a1 a2 a3 a4 a5 a6 k, LeO (laws_FnExactLevelsOf.f k a0 a1 a2 a3 a4 a5 a6) (laws_FnExactLevelsOf.f (k + 1) a0 a1 a2 a3 a4 a5 a6) := by
  intro a0 a1 a2 a3 a4 a5 a6 k
  obtain ⟨ih0, ih1, ih2⟩ := laws_FnExactLevelsOf.mono_l k
  unfold laws_FnExactLevelsOf.f
  repeat' first
      | (with_reducible exact ih0 _ _ _ _ _ _ _ _ _ _ _ _ _)
      | (with_reducible exact ih1 _ _ _ _ _ _ _ _ _ _ _)
      | (with_reducible exact ih2 _ _ _)
      | (with_reducible exact impl_LevelsOf.mono _ _ _ _ _ _ _ _)
      | (with_reducible exact laws_eqIntS.mono _ _ _)
      | (with_reducible exact laws_eqLevelS.mono _ _ _)
      | (with_reducible exact laws_heldLevelS.mono _ _ _)
      | (with_reducible exact laws_markIntS.mono _ _ _)
      | (with_reducible exact laws_markLevelS.mono _ _ _)
      | (with_reducible exact laws_toIntS.mono _ _)
      | (with_reducible exact spec_LevelsOf.mono _ _ _ _ _ _ _ _)
      | (with_reducible exact LeO.refl _)
      | (with_reducible exact LeO.none _)
      | (with_reducible refine LeO.ite ?_ ?_)
      | (with_reducible refine LeO.bind ?_ (fun _ => ?_))
      | exact ih0 _ _ _ _ _ _ _ _ _ _ _ _ _
      | exact ih1 _ _ _ _ _ _ _ _ _ _ _
      | exact ih2 _ _ _
      | exact impl_LevelsOf.mono _ _ _ _ _ _ _ _
      | exact laws_eqIntS.mono _ _ _
      | exact laws_eqLevelS.mono _ _ _
      | exact laws_heldLevelS.mono _ _ _
      | exact laws_markIntS.mono _ _ _
      | exact laws_markLevelS.mono _ _ _
      | exact laws_toIntS.mono _ _
      | exact spec_LevelsOf.mono _ _ _ _ _ _ _ _
      | exact LeO.none _
      | refine LeO.ite ?_ ?_
      | refine LeO.bind ?_ (fun _ => ?_)
def laws_FnExactLevelsOf.T3 : Bool × List (List Nat × List Nat) := (true, [([], []), ([0], [0]), ([], []), ([2, 1], [2]), ([], []), ([4, 3], [4]), ([1, 3, 5, 5], [1, 3, 5]), ([6], [6]), ([7], [7]), ([7], [7]), ([8, 6, 0, 1, 2, 3, 4, 5, 6, 7, 8], [8]), ([9, 10, 0, 1, 2, 3, 4, 5, 6, 7, 8, 9, 10], [9])])
def laws_FnExactLevelsOf.B3 : List Nat := [0, 1, 0, 7, 0, 31, 63, 127, 255, 255, 511, 2047]
theorem laws_FnExactLevelsOf.tab3 : rtab .any (opsOf Try.f5 3) = laws_FnExactLevelsOf.T3 := by kernel_rfl
theorem laws_FnExactLevelsOf.bits3 : waitsOk laws_FnExactLevelsOf.T3.2 laws_FnExactLevelsOf.B3 = true := by kernel_rfl
def laws_FnExactLevelsOf.T5 : Bool × List (List Nat × List Nat) := (true, [([], []), ([0], [0]), ([], []), ([2, 1], [2]), ([], []), ([1, 3, 4, 3], [1, 3, 4]), ([5], [5]), ([6], [6]), ([6], [6]), ([7, 5, 0, 1, 2, 3, 4, 5, 6, 7], [7]), ([8, 9, 0, 1, 2, 3, 4, 5, 6, 7, 8, 9], [8])])
def laws_FnExactLevelsOf.B5 : List Nat := [0, 1, 0, 7, 0, 31, 63, 127, 127, 255, 1023]
theorem laws_FnExactLevelsOf.tab5 : rtab .any (opsOf Try.f5 5) = laws_FnExactLevelsOf.T5 := by kernel_rfl
theorem laws_FnExactLevelsOf.bits5 : waitsOk laws_FnExactLevelsOf.T5.2 laws_FnExactLevelsOf.B5 = true := by kernel_rfl
def laws_FnExactLevelsOf.T22 : Bool × List (List Nat × List Nat) := (true, [([], []), ([0], [0]), ([], []), ([2, 1], [2]), ([], []), ([4, 3], [4]), ([1, 3, 5, 5], [1, 3, 5]), ([6], [6]), ([7], [7]), ([7], [7]), ([8, 6, 0, 1, 2, 3, 4, 5, 6, 7, 8], [8]), ([9, 10, 0, 1, 2, 3, 4, 5, 6, 7, 8, 9, 10], [9])])
def laws_FnExactLevelsOf.B22 : List Nat := [0, 1, 0, 7, 0, 31, 63, 127, 255, 255, 511, 2047]
theorem laws_FnExactLevelsOf.tab22 : rtab .any (opsOf Try.f5 22) = laws_FnExactLevelsOf.T22 := by kernel_rfl
theorem laws_FnExactLevelsOf.bits22 : waitsOk laws_FnExactLevelsOf.T22.2 laws_FnExactLevelsOf.B22 = true := by kernel_rfl
set_option maxHeartbeats 8000000 in
set_option maxRecDepth 100000 in
theorem laws_FnExactLevelsOf.calls (k : Nat) (a0_0 : Int) (a0_1 : Int) (a0_2 : Int) (a0_3 : Int) (a1_0 : Int) (a1_1 : Bool) (A2 : Option Addr) (c2 : Nat) (l2 : List Int) (w : World) (hr2 : Kd.C (Kd.int .i64) w A2 l2.length l2) (hc2 : l2.length ≤ c2) (h : laws_FnExactLevelsOf.f k a0_0 a0_1 a0_2 a0_3 a1_0 a1_1 l2 = some true) :
    Calls Try.prog 5 #[.agg #[.int .i64 a0_0, .int .i64 a0_1, .int .i64 a0_2, .int .i64 a0_3], .agg #[.int .i64 a1_0, .bool a1_1], .slice A2 l2.length c2] w fun e w' => e = .returned (.bool true) ∧ Below w.heap.size w w' := by
  have hu23 := Try.underlying23
  have hu25 := Try.underlying25
  have HR2 := Aside0.mk hr2
  have HC2 := Aside0.mk hc2
  clear hr2 hc2
  have HB := Aside0.mk (Below.refl w.heap.size w)
  have H : (if (l2.length : Int) > 1048576 then (some true) else ((laws_toSiphon.f a0_0 a0_1 a0_2 a0_3).bind fun bt232 => ((laws_toLevel.f a1_0 a1_1).bind fun bt236 => ((laws_toIntS.f k l2).bind fun t238 => ((spec_LevelsOf.f k bt232.1 bt232.2.1 bt232.2.2.1 bt232.2.2.2 bt236.1 bt236.2 t238).bind fun bt241 => ((laws_toIntS.f k l2).bind fun t245 => ((laws_toSiphon.f a0_0 a0_1 a0_2 a0_3).bind fun bt248 => ((laws_toLevel.f a1_0 a1_1).bind fun bt252 => ((impl_LevelsOf.f k bt248.1 bt248.2.1 bt248.2.2.1 bt248.2.2.2 bt252.1 bt252.2 t245).bind fun bt254 => ((laws_eqLevelS.f k bt254.1 bt241.1).bind fun t258 => (if t258 = true then (laws_FnExactLevelsOf.j0 k l2 bt241.1 bt241.2 t245 bt254.1 bt254.2 (bt254.2 != bt241.2) a0_0 a0_1 a0_2 a0_3 a1_0 a1_1) else (laws_FnExactLevelsOf.j0 k l2 bt241.1 bt241.2 t245 bt254.1 bt254.2 true a0_0 a0_1 a0_2 a0_3 a1_0 a1_1)))))))))))) = some true := h
  clear h
  by_cases c4 : (l2.length : Int) > 1048576
  · rw [if_pos c4] at H
    have c4b0 : decide (1048576 < (l2.length : Int)) = true := decide_eq_true c4
    have c4b1 : decide (1048576 < l2.length) = true := decide_eq_true (by omega)
    clear c4
    clear H
    go_enter Try.func5, Try.ntmps5
    go_wp2_with (first | ((with_reducible refine gate_dst (N := 3) rfl ?_); refine box_event ?hg (N := 3) ?hd (cs := #[.int .i64 a0_0, .int .i64 a0_1, .int .i64 a0_2, .int .i64 a0_3]) (t := 23) ?hr ?_; (case hd => rfl); (case hg => rfl); (case hr => first | (go_simp; done) | (go_simp; rfl)); intro gb230 hg w5 hbox hb; have n0_ := Aside0.mk (below_step (xs HB.out) hb); have n1_ := Aside0.mk (hbox); have n2_ := Aside0.mk ((by rw [hg]; exact (below_size (xs HB.out)) : w.heap.size ≤ gb230)); have n3_ := Aside0.mk ((by rw [hg]; exact (below_size (xs HB.out)) : w.heap.size ≤ gb230)); clear HB; have HB := n0_; have BK230 := n1_; have GW230 := n2_; have GE230 := n3_; clear n0_ n1_ n2_ n3_; clear hb hbox hg) | ((with_reducible refine gate_dst (N := 4) rfl ?_); refine box_event ?hg (N := 4) ?hd (cs := #[.int .i64 a1_0, .bool a1_1]) (t := 25) ?hr ?_; (case hd => rfl); (case hg => rfl); (case hr => first | (go_simp; done) | (go_simp; rfl)); intro gb231 hg w6 hbox hb; have n0_ := Aside0.mk (blk_below (g := gb230) (o := .cells #[.int .i64 a0_0, .int .i64 a0_1, .int .i64 a0_2, .int .i64 a0_3] 23 (0, 0)) (xb BK230.out) hb); have n1_ := Aside0.mk (below_step (xs HB.out) hb); have n2_ := Aside0.mk (hbox); have n3_ := Aside0.mk ((by rw [hg]; exact (below_size (xs HB.out)) : w.heap.size ≤ gb231)); have n4_ := Aside0.mk ((by rw [hg]; exact (below_size (xs HB.out)) : w.heap.size ≤ gb231)); have n5_ := Aside0.mk ((by rw [hg]; exact Nat.ne_of_lt (blk_lt (g := gb230) (o := .cells #[.int .i64 a0_0, .int .i64 a0_1, .int .i64 a0_2, .int .i64 a0_3] 23 (0, 0)) (xb BK230.out)) : gb230 ≠ gb231)); have n6_ := Aside0.mk ((by rw [hg]; exact Nat.ne_of_gt (blk_lt (g := gb230) (o := .cells #[.int .i64 a0_0, .int .i64 a0_1, .int .i64 a0_2, .int .i64 a0_3] 23 (0, 0)) (xb BK230.out)) : gb231 ≠ gb230)); clear BK230; clear HB; have BK230 := n0_; have HB := n1_; have BK231 := n2_; have GW231 := n3_; have GE231 := n4_; have NB230_231 := n5_; have NB231_230 := n6_; clear n0_ n1_ n2_ n3_ n4_ n5_ n6_; clear hb hbox hg))
    go_ret
    exact ⟨by first | rfl | (simp [errW_none, errW_some] <;> rfl) | (simp [*, errW_none, errW_some] <;> rfl), by repeat (first | (with_reducible first | exact HB.out | apply below_alloc | apply pw_below_drewN | apply below_drew1 | refine below_set ?_ GE230.out | refine below_set ?_ GE231.out) | exact HB.out)⟩
  · rw [if_neg c4] at H
    have c4b0 : decide (1048576 < (l2.length : Int)) = false := decide_eq_false c4
    have c4b1 : decide (1048576 < l2.length) = false := decide_eq_false (by omega)
    clear c4
    replace H := Option.bind_eq_some_iff.mp H
    obtain ⟨⟨t232, t233, t234, t235⟩, A70, H⟩ := H
    replace H : ((laws_toLevel.f a1_0 a1_1).bind fun bt236 => ((laws_toIntS.f k l2).bind fun t238 => ((spec_LevelsOf.f k t232 t233 t234 t235 bt236.1 bt236.2 t238).bind fun bt241 => ((laws_toIntS.f k l2).bind fun t245 => ((laws_toSiphon.f a0_0 a0_1 a0_2 a0_3).bind fun bt248 => ((laws_toLevel.f a1_0 a1_1).bind fun bt252 => ((impl_LevelsOf.f k bt248.1 bt248.2.1 bt248.2.2.1 bt248.2.2.2 bt252.1 bt252.2 t245).bind fun bt254 => ((laws_eqLevelS.f k bt254.1 bt241.1).bind fun t258 => (if t258 = true then (laws_FnExactLevelsOf.j0 k l2 bt241.1 bt241.2 t245 bt254.1 bt254.2 (bt254.2 != bt241.2) a0_0 a0_1 a0_2 a0_3 a1_0 a1_1) else (laws_FnExactLevelsOf.j0 k l2 bt241.1 bt241.2 t245 bt254.1 bt254.2 true a0_0 a0_1 a0_2 a0_3 a1_0 a1_1)))))))))) = some true := H
    have A7 := Aside0.mk A70
    clear A70
    replace H := Option.bind_eq_some_iff.mp H
    obtain ⟨⟨t236, t237⟩, A80, H⟩ := H
    replace H : ((laws_toIntS.f k l2).bind fun t238 => ((spec_LevelsOf.f k t232 t233 t234 t235 t236 t237 t238).bind fun bt241 => ((laws_toIntS.f k l2).bind fun t245 => ((laws_toSiphon.f a0_0 a0_1 a0_2 a0_3).bind fun bt248 => ((laws_toLevel.f a1_0 a1_1).bind fun bt252 => ((impl_LevelsOf.f k bt248.1 bt248.2.1 bt248.2.2.1 bt248.2.2.2 bt252.1 bt252.2 t245).bind fun bt254 => ((laws_eqLevelS.f k bt254.1 bt241.1).bind fun t258 => (if t258 = true then (laws_FnExactLevelsOf.j0 k l2 bt241.1 bt241.2 t245 bt254.1 bt254.2 (bt254.2 != bt241.2) a0_0 a0_1 a0_2 a0_3 a1_0 a1_1) else (laws_FnExactLevelsOf.j0 k l2 bt241.1 bt241.2 t245 bt254.1 bt254.2 true a0_0 a0_1 a0_2 a0_3 a1_0 a1_1))))))))) = some true := H
    have A8 := Aside0.mk A80
    clear A80
    replace H := Option.bind_eq_some_iff.mp H
    obtain ⟨t238, A90, H⟩ := H
    replace H : ((spec_LevelsOf.f k t232 t233 t234 t235 t236 t237 t238).bind fun bt241 => ((laws_toIntS.f k l2).bind fun t245 => ((laws_toSiphon.f a0_0 a0_1 a0_2 a0_3).bind fun bt248 => ((laws_toLevel.f a1_0 a1_1).bind fun bt252 => ((impl_LevelsOf.f k bt248.1 bt248.2.1 bt248.2.2.1 bt248.2.2.2 bt252.1 bt252.2 t245).bind fun bt254 => ((laws_eqLevelS.f k bt254.1 bt241.1).bind fun t258 => (if t258 = true then (laws_FnExactLevelsOf.j0 k l2 bt241.1 bt241.2 t245 bt254.1 bt254.2 (bt254.2 != bt241.2) a0_0 a0_1 a0_2 a0_3 a1_0 a1_1) else (laws_FnExactLevelsOf.j0 k l2 bt241.1 bt241.2 t245 bt254.1 bt254.2 true a0_0 a0_1 a0_2 a0_3 a1_0 a1_1)))))))) = some true := H
    have A9 := Aside0.mk A90
    clear A90
    replace H := Option.bind_eq_some_iff.mp H
    obtain ⟨⟨t241, t244⟩, A100, H⟩ := H
    replace H : ((laws_toIntS.f k l2).bind fun t245 => ((laws_toSiphon.f a0_0 a0_1 a0_2 a0_3).bind fun bt248 => ((laws_toLevel.f a1_0 a1_1).bind fun bt252 => ((impl_LevelsOf.f k bt248.1 bt248.2.1 bt248.2.2.1 bt248.2.2.2 bt252.1 bt252.2 t245).bind fun bt254 => ((laws_eqLevelS.f k bt254.1 t241).bind fun t258 => (if t258 = true then (laws_FnExactLevelsOf.j0 k l2 t241 t244 t245 bt254.1 bt254.2 (bt254.2 != t244) a0_0 a0_1 a0_2 a0_3 a1_0 a1_1) else (laws_FnExactLevelsOf.j0 k l2 t241 t244 t245 bt254.1 bt254.2 true a0_0 a0_1 a0_2 a0_3 a1_0 a1_1))))))) = some true := H
    have A10 := Aside0.mk A100
    clear A100
    replace H := Option.bind_eq_some_iff.mp H
    obtain ⟨t245, A110, H⟩ := H
    replace H : ((laws_toSiphon.f a0_0 a0_1 a0_2 a0_3).bind fun bt248 => ((laws_toLevel.f a1_0 a1_1).bind fun bt252 => ((impl_LevelsOf.f k bt248.1 bt248.2.1 bt248.2.2.1 bt248.2.2.2 bt252.1 bt252.2 t245).bind fun bt254 => ((laws_eqLevelS.f k bt254.1 t241).bind fun t258 => (if t258 = true then (laws_FnExactLevelsOf.j0 k l2 t241 t244 t245 bt254.1 bt254.2 (bt254.2 != t244) a0_0 a0_1 a0_2 a0_3 a1_0 a1_1) else (laws_FnExactLevelsOf.j0 k l2 t241 t244 t245 bt254.1 bt254.2 true a0_0 a0_1 a0_2 a0_3 a1_0 a1_1)))))) = some true := H
    have A11 := Aside0.mk A110
    clear A110
    replace H := Option.bind_eq_some_iff.mp H
    obtain ⟨⟨t248, t249, t250, t251⟩, A120, H⟩ := H
    replace H : ((laws_toLevel.f a1_0 a1_1).bind fun bt252 => ((impl_LevelsOf.f k t248 t249 t250 t251 bt252.1 bt252.2 t245).bind fun bt254 => ((laws_eqLevelS.f k bt254.1 t241).bind fun t258 => (if t258 = true then (laws_FnExactLevelsOf.j0 k l2 t241 t244 t245 bt254.1 bt254.2 (bt254.2 != t244) a0_0 a0_1 a0_2 a0_3 a1_0 a1_1) else (laws_FnExactLevelsOf.j0 k l2 t241 t244 t245 bt254.1 bt254.2 true a0_0 a0_1 a0_2 a0_3 a1_0 a1_1))))) = some true := H
    have A12 := Aside0.mk A120
    clear A120
    replace H := Option.bind_eq_some_iff.mp H
    obtain ⟨⟨t252, t253⟩, A130, H⟩ := H
    replace H : ((impl_LevelsOf.f k t248 t249 t250 t251 t252 t253 t245).bind fun bt254 => ((laws_eqLevelS.f k bt254.1 t241).bind fun t258 => (if t258 = true then (laws_FnExactLevelsOf.j0 k l2 t241 t244 t245 bt254.1 bt254.2 (bt254.2 != t244) a0_0 a0_1 a0_2 a0_3 a1_0 a1_1) else (laws_FnExactLevelsOf.j0 k l2 t241 t244 t245 bt254.1 bt254.2 true a0_0 a0_1 a0_2 a0_3 a1_0 a1_1)))) = some true := H
    have A13 := Aside0.mk A130
    clear A130
    replace H := Option.bind_eq_some_iff.mp H
    obtain ⟨⟨t254, t257⟩, A140, H⟩ := H
    replace H : ((laws_eqLevelS.f k t254 t241).bind fun t258 => (if t258 = true then (laws_FnExactLevelsOf.j0 k l2 t241 t244 t245 t254 t257 (t257 != t244) a0_0 a0_1 a0_2 a0_3 a1_0 a1_1) else (laws_FnExactLevelsOf.j0 k l2 t241 t244 t245 t254 t257 true a0_0 a0_1 a0_2 a0_3 a1_0 a1_1))) = some true := H
    have A14 := Aside0.mk A140
    clear A140
    have HC15 := Aside0.mk H
    clear H
    go_enter Try.func5, Try.ntmps5
    try go_wp2_with (first | ((with_reducible refine gate_dst (N := 3) rfl ?_); refine box_event ?hg (N := 3) ?hd (cs := #[.int .i64 a0_0, .int .i64 a0_1, .int .i64 a0_2, .int .i64 a0_3]) (t := 23) ?hr ?_; (case hd => rfl); (case hg => rfl); (case hr => first | (go_simp; done) | (go_simp; rfl)); intro gb230 hg w16 hbox hb; have n0_ := Aside0.mk (below_step (xs HB.out) hb); have n1_ := Aside0.mk (hbox); have n2_ := Aside0.mk ((by rw [hg]; exact (below_size (xs HB.out)) : w.heap.size ≤ gb230)); have n3_ := Aside0.mk ((by rw [hg]; exact (below_size (xs HB.out)) : w.heap.size ≤ gb230)); clear HB; have HB := n0_; have BK230 := n1_; have GW230 := n2_; have GE230 := n3_; clear n0_ n1_ n2_ n3_; clear hb hbox hg) | ((with_reducible refine gate_dst (N := 4) rfl ?_); refine box_event ?hg (N := 4) ?hd (cs := #[.int .i64 a1_0, .bool a1_1]) (t := 25) ?hr ?_; (case hd => rfl); (case hg => rfl); (case hr => first | (go_simp; done) | (go_simp; rfl)); intro gb231 hg w17 hbox hb; have n0_ := Aside0.mk (blk_below (g := gb230) (o := .cells #[.int .i64 a0_0, .int .i64 a0_1, .int .i64 a0_2, .int .i64 a0_3] 23 (0, 0)) (xb BK230.out) hb); have n1_ := Aside0.mk (below_step (xs HB.out) hb); have n2_ := Aside0.mk (hbox); have n3_ := Aside0.mk ((by rw [hg]; exact (below_size (xs HB.out)) : w.heap.size ≤ gb231)); have n4_ := Aside0.mk ((by rw [hg]; exact (below_size (xs HB.out)) : w.heap.size ≤ gb231)); have n5_ := Aside0.mk ((by rw [hg]; exact Nat.ne_of_lt (blk_lt (g := gb230) (o := .cells #[.int .i64 a0_0, .int .i64 a0_1, .int .i64 a0_2, .int .i64 a0_3] 23 (0, 0)) (xb BK230.out)) : gb230 ≠ gb231)); have n6_ := Aside0.mk ((by rw [hg]; exact Nat.ne_of_gt (blk_lt (g := gb230) (o := .cells #[.int .i64 a0_0, .int .i64 a0_1, .int .i64 a0_2, .int .i64 a0_3] 23 (0, 0)) (xb BK230.out)) : gb231 ≠ gb230)); clear BK230; clear HB; have BK230 := n0_; have HB := n1_; have BK231 := n2_; have GW231 := n3_; have GE231 := n4_; have NB230_231 := n5_; have NB231_230 := n6_; clear n0_ n1_ n2_ n3_ n4_ n5_ n6_; clear hb hbox hg))
    have n0_ := Aside0.mk (blk_drew BK230.out)
    have n1_ := Aside0.mk (blk_drew BK231.out)
    have n2_ := Aside0.mk (below_drew1 HB.out)
    clear BK230
    clear BK231
    clear HB
    have BK230 := n0_
    have BK231 := n1_
    have HB := n2_
    clear n0_ n1_ n2_
    refine start_ (n := 12) (S := fun w' => w'.cell? ⟨gb230, 0, none⟩ = some (.int .i64 a0_0) ∧ w'.cell? ⟨gb230, 1, none⟩ = some (.int .i64 a0_1) ∧ w'.cell? ⟨gb230, 2, none⟩ = some (.int .i64 a0_2) ∧ w'.cell? ⟨gb230, 3, none⟩ = some (.int .i64 a0_3) ∧ w'.cell? ⟨gb231, 0, none⟩ = some (.int .i64 a1_0) ∧ w'.cell? ⟨gb231, 1, none⟩ = some (.bool a1_1)) (ds := []) #[false, false, false, false, false, false, false, false, false, false, false, false] (by kernel_rfl) rfl rfl ⟨(blk_cell BK230.out 0).trans rfl, (blk_cell BK230.out 1).trans rfl, (blk_cell BK230.out 2).trans rfl, (blk_cell BK230.out 3).trans rfl, (blk_cell BK231.out 0).trans rfl, (blk_cell BK231.out 1).trans rfl⟩ (fun hHeld => ?_); refine with_tabW laws_FnExactLevelsOf.tab3 laws_FnExactLevelsOf.bits3 (fun HT_ HW_ => ?_)
    generalize w17.drew = w18 at BK230 BK231 HB hHeld ⊢
    refine pure_ (i := 4) (N := some 25) (v := ?_) (a' := ?_) #[false, false, false, false, true, false, false, false, false, false, false, false] rfl rfl (any_of HT_.out (by kernel_rfl)) (fun _ _ _ h => h) (Or.inl ⟨by rfl, ?_⟩) ?_ ?_
    rotate_left
    · intro w'
      go_simp
      with_reducible rfl
    rotate_left
    · simp only [Act.put, List.setIfInBounds_toArray, List.set_cons_zero, List.set_cons_succ, i64_w, i32_w]
      rfl
    refine take_ (i := 0) (N := some 21) (v := ?_) (a' := ?_) #[true, false, false, false, true, false, false, false, false, false, false, false] rfl rfl (take_ofW HT_.out HW_.out (by kernel_rfl)) (fun _ _ _ h => h) (Or.inl ⟨by rfl, ?_⟩) hHeld ?_ ?_
    rotate_left
    · rintro w' ⟨s0, s1, s2, s3, s4, s5⟩
      go_simp
      with_reducible rfl
    rotate_left
    · simp only [Act.put, List.setIfInBounds_toArray, List.set_cons_zero, List.set_cons_succ, i64_w, i32_w]
      rfl
    refine take_ (i := 2) (N := some 23) (v := ?_) (a' := ?_) #[true, false, true, false, true, false, false, false, false, false, false, false] rfl rfl (take_ofW HT_.out HW_.out (by kernel_rfl)) (fun _ _ _ h => h) (Or.inl ⟨by rfl, ?_⟩) hHeld ?_ ?_
    rotate_left
    · rintro w' ⟨s0, s1, s2, s3, s4, s5⟩
      go_simp
      with_reducible rfl
    rotate_left
    · simp only [Act.put, List.setIfInBounds_toArray, List.set_cons_zero, List.set_cons_succ, i64_w, i32_w]
      rfl
    refine one_ (i := 1) (N := some 22) #[true, true, true, false, true, false, false, false, false, false, false, false] rfl rfl (one_of HT_.out (by kernel_rfl)) (by decide) (fun K hK => ?_)
    refine goes_ Try.func12 (by kernel_rfl) rfl #[.agg #[.int .i64 a0_0, .int .i64 a0_1, .int .i64 a0_2, .int .i64 a0_3]] (by rfl) rfl rfl (by (try simp only [List.map_toArray, List.map_cons, List.map_nil]); first | done | rfl | (simp only [List.length_drop, List.length_take]; rfl)) ?_
    with_reducible refine (laws_toSiphon.calls a0_0 a0_1 a0_2 a0_3 t232 t233 t234 t235 _ A7.out).mono ?_
    rintro e w19 ⟨rfl, hb⟩
    refine ⟨_, rfl, ?_⟩
    have n0_ := Aside0.mk (blk_below (g := gb230) (o := .cells #[.int .i64 a0_0, .int .i64 a0_1, .int .i64 a0_2, .int .i64 a0_3] 23 (0, 0)) (xb BK230.out) hb)
    have n1_ := Aside0.mk (blk_below (g := gb231) (o := .cells #[.int .i64 a1_0, .bool a1_1] 25 (0, 0)) (xb BK231.out) hb)
    have n2_ := Aside0.mk (below_step (xs HB.out) hb)
    clear BK230
    clear BK231
    clear HB
    have BK230 := n0_
    have BK231 := n1_
    have HB := n2_
    clear n0_ n1_ n2_
    (try clear hb)
    (try clear hb2)
    (try clear hk)
    (try clear hi)
    refine hK.out _ _ ⟨(blk_cell BK230.out 0).trans rfl, (blk_cell BK230.out 1).trans rfl, (blk_cell BK230.out 2).trans rfl, (blk_cell BK230.out 3).trans rfl, (blk_cell BK231.out 0).trans rfl, (blk_cell BK231.out 1).trans rfl⟩ (fun hHeld => ?_)
    clear hK K
    refine norm_ (a' := ?_) ?_ ?_
    rotate_left
    · show Act.put _ (some 22) _ = _
      simp only [Act.put, List.setIfInBounds_toArray, List.set_cons_zero, List.set_cons_succ, i64_w, i32_w]
      rfl
    refine one_ (i := 3) (N := some 24) #[true, true, true, true, true, false, false, false, false, false, false, false] rfl rfl (one_of HT_.out (by kernel_rfl)) (by decide) (fun K hK => ?_)
    refine goes_ Try.func13 (by kernel_rfl) rfl #[.agg #[.int .i64 a1_0, .bool a1_1]] (by rfl) rfl rfl (by (try simp only [List.map_toArray, List.map_cons, List.map_nil]); first | done | rfl | (simp only [List.length_drop, List.length_take]; rfl)) ?_
    with_reducible refine (laws_toLevel.calls a1_0 a1_1 t236 t237 _ A8.out).mono ?_
    rintro e w20 ⟨rfl, hb⟩
    refine ⟨_, rfl, ?_⟩
    have n0_ := Aside0.mk (blk_below (g := gb230) (o := .cells #[.int .i64 a0_0, .int .i64 a0_1, .int .i64 a0_2, .int .i64 a0_3] 23 (0, 0)) (xb BK230.out) hb)
    have n1_ := Aside0.mk (blk_below (g := gb231) (o := .cells #[.int .i64 a1_0, .bool a1_1] 25 (0, 0)) (xb BK231.out) hb)
    have n2_ := Aside0.mk (below_step (xs HB.out) hb)
    clear BK230
    clear BK231
    clear HB
    have BK230 := n0_
    have BK231 := n1_
    have HB := n2_
    clear n0_ n1_ n2_
    (try clear hb)
    (try clear hb2)
    (try clear hk)
    (try clear hi)
    refine hK.out _ _ ⟨(blk_cell BK230.out 0).trans rfl, (blk_cell BK230.out 1).trans rfl, (blk_cell BK230.out 2).trans rfl, (blk_cell BK230.out 3).trans rfl, (blk_cell BK231.out 0).trans rfl, (blk_cell BK231.out 1).trans rfl⟩ (fun hHeld => ?_)
    clear hK K
    refine norm_ (a' := ?_) ?_ ?_
    rotate_left
    · show Act.put _ (some 24) _ = _
      simp only [Act.put, List.setIfInBounds_toArray, List.set_cons_zero, List.set_cons_succ, i64_w, i32_w]
      rfl
    refine one_ (i := 5) (N := some 26) #[true, true, true, true, true, true, false, false, false, false, false, false] rfl rfl (one_of HT_.out (by kernel_rfl)) (by decide) (fun K hK => ?_)
    refine goes_ Try.func14 (by kernel_rfl) rfl #[.slice A2 l2.length c2] (by rfl) rfl rfl (by (try simp only [List.map_toArray, List.map_cons, List.map_nil]); first | done | rfl | (simp only [List.length_drop, List.length_take]; rfl)) ?_
    with_reducible refine (laws_toIntS.calls k _ _ l2 t238 _ ?side1 ?side2 A9.out).mono ?_
    (case side1 => repeat (first | exact (Kd.C_below HR2.out HB.out) | (with_reducible refine Kd.C_alloc ?_ _) | (with_reducible refine Kd.C_drewN ?_ _) | (with_reducible refine Kd.C_drew ?_)))
    (case side2 => exact HC2.out)
    rintro e w21 ⟨v239, rfl, ho0, hb⟩
    refine ⟨_, rfl, ?_⟩
    have n0_ := Aside0.mk (Kd.R_lower ho0 (below_size (xs HB.out)))
    have n1_ := Aside0.mk (blk_below (g := gb230) (o := .cells #[.int .i64 a0_0, .int .i64 a0_1, .int .i64 a0_2, .int .i64 a0_3] 23 (0, 0)) (xb BK230.out) hb)
    have n2_ := Aside0.mk (blk_below (g := gb231) (o := .cells #[.int .i64 a1_0, .bool a1_1] 25 (0, 0)) (xb BK231.out) hb)
    have n3_ := Aside0.mk (below_step (xs HB.out) hb)
    clear BK230
    clear BK231
    clear HB
    have HO240 := n0_
    have BK230 := n1_
    have BK231 := n2_
    have HB := n3_
    clear n0_ n1_ n2_ n3_
    (try clear hb)
    (try clear hb2)
    (try clear hk)
    (try clear hi)
    (try clear ho0)
    obtain ⟨Ao22, co22, eo22⟩ := Kd.R_slice HO240.out
    (first | subst eo22 | (injection eo22 with f1_ f2_ f3_; have f4_ := f1_.symm; have f5_ := f3_.symm; clear f1_ f2_ f3_; subst f4_; subst f5_))
    refine hK.out _ _ ⟨(blk_cell BK230.out 0).trans rfl, (blk_cell BK230.out 1).trans rfl, (blk_cell BK230.out 2).trans rfl, (blk_cell BK230.out 3).trans rfl, (blk_cell BK231.out 0).trans rfl, (blk_cell BK231.out 1).trans rfl⟩ (fun hHeld => ?_)
    clear hK K
    refine norm_ (a' := ?_) ?_ ?_
    rotate_left
    · show Act.put _ (some 26) _ = _
      simp only [Act.put, List.setIfInBounds_toArray, List.set_cons_zero, List.set_cons_succ, i64_w, i32_w]
      rfl
    refine one_ (i := 6) (N := some 27) #[true, true, true, true, true, true, true, false, false, false, false, false] rfl rfl (one_of HT_.out (by kernel_rfl)) (by decide) (fun K hK => ?_)
    refine goes_ Try.func21 (by kernel_rfl) rfl #[.agg #[.int .i64 t232, .int .i64 t233, .int .i64 t234, .int .i64 t235], .agg #[.int .i64 t236, .bool t237], .slice Ao22 t238.length co22] (by rfl) rfl rfl (by (try simp only [List.map_toArray, List.map_cons, List.map_nil]); first | done | rfl | (simp only [List.length_drop, List.length_take]; rfl)) ?_
    with_reducible refine (spec_LevelsOf.calls k t232 t233 t234 t235 t236 t237 _ _ t238 t241 t244 _ ?side1 ?side2 A10.out).mono ?_
    (case side1 => repeat (first | exact (Kd.R_reads' HO240.out).2.2 | (with_reducible refine Kd.C_alloc ?_ _) | (with_reducible refine Kd.C_drewN ?_ _) | (with_reducible refine Kd.C_drew ?_)))
    (case side2 => exact (Kd.R_reads' HO240.out).2.1)
    rintro e w23 ⟨v242, rfl, ho0, hb⟩
    refine ⟨_, rfl, ?_⟩
    have n0_ := Aside0.mk (Kd.R_below (xr HO240.out) hb)
    have n1_ := Aside0.mk (Kd.R_lower ho0 (below_size (xs HB.out)))
    have n2_ := Aside0.mk (blk_below (g := gb230) (o := .cells #[.int .i64 a0_0, .int .i64 a0_1, .int .i64 a0_2, .int .i64 a0_3] 23 (0, 0)) (xb BK230.out) hb)
    have n3_ := Aside0.mk (blk_below (g := gb231) (o := .cells #[.int .i64 a1_0, .bool a1_1] 25 (0, 0)) (xb BK231.out) hb)
    have n4_ := Aside0.mk (below_step (xs HB.out) hb)
    clear HO240
    clear BK230
    clear BK231
    clear HB
    have HO240 := n0_
    have HO243 := n1_
    have BK230 := n2_
    have BK231 := n3_
    have HB := n4_
    clear n0_ n1_ n2_ n3_ n4_
    (try clear hb)
    (try clear hb2)
    (try clear hk)
    (try clear hi)
    (try clear ho0)
    refine hK.out _ _ ⟨(blk_cell BK230.out 0).trans rfl, (blk_cell BK230.out 1).trans rfl, (blk_cell BK230.out 2).trans rfl, (blk_cell BK230.out 3).trans rfl, (blk_cell BK231.out 0).trans rfl, (blk_cell BK231.out 1).trans rfl⟩ (fun hHeld => ?_)
    clear hK K
    refine norm_ (a' := ?_) ?_ ?_
    rotate_left
    · show Act.put _ (some 27) _ = _
      simp only [Act.put, List.setIfInBounds_toArray, List.set_cons_zero, List.set_cons_succ, i64_w, i32_w]
      rfl
    refine pure_ (i := 7) (N := some 20) (v := ?_) (a' := ?_) #[true, true, true, true, true, true, true, true, false, false, false, false] rfl rfl (any_of HT_.out (by kernel_rfl)) (fun _ _ _ h => h) (Or.inl ⟨by rfl, ?_⟩) ?_ ?_
    rotate_left
    · intro w'
      go_simp
      with_reducible rfl
    rotate_left
    · simp only [Act.put, List.setIfInBounds_toArray, List.set_cons_zero, List.set_cons_succ, i64_w, i32_w]
      rfl
    refine pure_ (i := 8) (N := some 28) (v := ?_) (a' := ?_) #[true, true, true, true, true, true, true, true, true, false, false, false] rfl rfl (any_of HT_.out (by kernel_rfl)) (fun _ _ _ h => h) (Or.inl ⟨by rfl, ?_⟩) ?_ ?_
    rotate_left
    · intro w'
      go_simp
      with_reducible rfl
    rotate_left
    · simp only [Act.put, List.setIfInBounds_toArray, List.set_cons_zero, List.set_cons_succ, i64_w, i32_w]
      rfl
    refine pure_ (i := 9) (N := some 29) (v := ?_) (a' := ?_) #[true, true, true, true, true, true, true, true, true, true, false, false] rfl rfl (any_of HT_.out (by kernel_rfl)) (fun _ _ _ h => h) (Or.inl ⟨by rfl, ?_⟩) ?_ ?_
    rotate_left
    · intro w'
      go_simp
      with_reducible rfl
    rotate_left
    · simp only [Act.put, List.setIfInBounds_toArray, List.set_cons_zero, List.set_cons_succ, i64_w, i32_w]
      rfl
    refine pure_ (i := 10) (N := some 7) (v := ?_) (a' := ?_) #[true, true, true, true, true, true, true, true, true, true, true, false] rfl rfl (any_of HT_.out (by kernel_rfl)) (fun _ _ _ h => h) (Or.inl ⟨by rfl, ?_⟩) ?_ ?_
    rotate_left
    · intro w'
      go_simp
      with_reducible rfl
    rotate_left
    · simp only [Act.put, List.setIfInBounds_toArray, List.set_cons_zero, List.set_cons_succ, i64_w, i32_w]
      rfl
    refine pure_ (i := 11) (N := some 8) (v := ?_) (a' := ?_) #[true, true, true, true, true, true, true, true, true, true, true, true] rfl rfl (any_of HT_.out (by kernel_rfl)) (fun _ _ _ h => h) (Or.inl ⟨by rfl, ?_⟩) ?_ ?_
    rotate_left
    · intro w'
      go_simp
      with_reducible rfl
    rotate_left
    · simp only [Act.put, List.setIfInBounds_toArray, List.set_cons_zero, List.set_cons_succ, i64_w, i32_w]
      rfl
    refine done_ (done_of HT_.out (by kernel_rfl)) ?_
    try go_wp2_with (first | ((with_reducible refine gate_callee (f := 14) rfl ?_); refine goesL_ (some 31) rfl rfl Try.func14 (by kernel_rfl) rfl #[.slice A2 l2.length c2] rfl (by (try simp only [List.map_toArray, List.map_cons, List.map_nil]); first | done | rfl | (simp only [List.length_drop, List.length_take]; rfl)) ?_; (with_reducible refine (laws_toIntS.calls k _ _ l2 t245 _ ?side1 ?side2 A11.out).mono ?_); (case side1 => repeat (first | exact (Kd.C_below HR2.out HB.out) | (with_reducible refine Kd.C_alloc ?_ _) | (with_reducible refine Kd.C_drewN ?_ _) | (with_reducible refine Kd.C_drew ?_))); (case side2 => exact HC2.out); rintro e w24 ⟨v246, rfl, ho0, hb⟩; refine ⟨_, rfl, ?_⟩; have n0_ := Aside0.mk (Kd.R_elder' (xr HO240.out) (Kd.R_base ho0) hb); have n1_ := Aside0.mk (Kd.R_below (xr HO243.out) hb); have n2_ := Aside0.mk (Kd.R_lower (Kd.R_new' ho0 (Kd.R_lt (xr HO240.out))) (below_size (xs HB.out))); have n3_ := Aside0.mk (blk_below (g := gb230) (o := .cells #[.int .i64 a0_0, .int .i64 a0_1, .int .i64 a0_2, .int .i64 a0_3] 23 (0, 0)) (xb BK230.out) hb); have n4_ := Aside0.mk (blk_below (g := gb231) (o := .cells #[.int .i64 a1_0, .bool a1_1] 25 (0, 0)) (xb BK231.out) hb); have n5_ := Aside0.mk (below_step (xs HB.out) hb); clear HO240; clear HO243; clear BK230; clear BK231; clear HB; have HO240 := n0_; have HO243 := n1_; have HO247 := n2_; have BK230 := n3_; have BK231 := n4_; have HB := n5_; clear n0_ n1_ n2_ n3_ n4_ n5_; (try clear hb); (try clear hb2); (try clear hk); (try clear hi); (try clear ho0)))
    have n0_ := Aside0.mk (Kd.R_drew HO240.out)
    have n1_ := Aside0.mk (Kd.R_drew HO243.out)
    have n2_ := Aside0.mk (Kd.R_drew HO247.out)
    have n3_ := Aside0.mk (blk_drew BK230.out)
    have n4_ := Aside0.mk (blk_drew BK231.out)
    have n5_ := Aside0.mk (below_drew1 HB.out)
    clear HO240
    clear HO243
    clear HO247
    clear BK230
    clear BK231
    clear HB
    have HO240 := n0_
    have HO243 := n1_
    have HO247 := n2_
    have BK230 := n3_
    have BK231 := n4_
    have HB := n5_
    clear n0_ n1_ n2_ n3_ n4_ n5_
    refine start_ (n := 11) (S := fun w' => w'.cell? ⟨gb230, 0, none⟩ = some (.int .i64 a0_0) ∧ w'.cell? ⟨gb230, 1, none⟩ = some (.int .i64 a0_1) ∧ w'.cell? ⟨gb230, 2, none⟩ = some (.int .i64 a0_2) ∧ w'.cell? ⟨gb230, 3, none⟩ = some (.int .i64 a0_3) ∧ w'.cell? ⟨gb231, 0, none⟩ = some (.int .i64 a1_0) ∧ w'.cell? ⟨gb231, 1, none⟩ = some (.bool a1_1)) (ds := []) #[false, false, false, false, false, false, false, false, false, false, false] (by kernel_rfl) rfl rfl ⟨(blk_cell BK230.out 0).trans rfl, (blk_cell BK230.out 1).trans rfl, (blk_cell BK230.out 2).trans rfl, (blk_cell BK230.out 3).trans rfl, (blk_cell BK231.out 0).trans rfl, (blk_cell BK231.out 1).trans rfl⟩ (fun hHeld => ?_); refine with_tabW laws_FnExactLevelsOf.tab5 laws_FnExactLevelsOf.bits5 (fun HT_ HW_ => ?_)
    generalize w24.drew = w25 at HO240 HO243 HO247 BK230 BK231 HB hHeld ⊢
    refine pure_ (i := 4) (N := some 37) (v := ?_) (a' := ?_) #[false, false, false, false, true, false, false, false, false, false, false] rfl rfl (any_of HT_.out (by kernel_rfl)) (fun _ _ _ h => h) (Or.inl ⟨by rfl, ?_⟩) ?_ ?_
    rotate_left
    · intro w'
      go_simp
      with_reducible rfl
    rotate_left
    · simp only [Act.put, List.setIfInBounds_toArray, List.set_cons_zero, List.set_cons_succ, i64_w, i32_w]
      rfl
    refine take_ (i := 0) (N := some 33) (v := ?_) (a' := ?_) #[true, false, false, false, true, false, false, false, false, false, false] rfl rfl (take_ofW HT_.out HW_.out (by kernel_rfl)) (fun _ _ _ h => h) (Or.inl ⟨by rfl, ?_⟩) hHeld ?_ ?_
    rotate_left
    · rintro w' ⟨s0, s1, s2, s3, s4, s5⟩
      go_simp
      with_reducible rfl
    rotate_left
    · simp only [Act.put, List.setIfInBounds_toArray, List.set_cons_zero, List.set_cons_succ, i64_w, i32_w]
      rfl
    refine take_ (i := 2) (N := some 35) (v := ?_) (a' := ?_) #[true, false, true, false, true, false, false, false, false, false, false] rfl rfl (take_ofW HT_.out HW_.out (by kernel_rfl)) (fun _ _ _ h => h) (Or.inl ⟨by rfl, ?_⟩) hHeld ?_ ?_
    rotate_left
    · rintro w' ⟨s0, s1, s2, s3, s4, s5⟩
      go_simp
      with_reducible rfl
    rotate_left
    · simp only [Act.put, List.setIfInBounds_toArray, List.set_cons_zero, List.set_cons_succ, i64_w, i32_w]
      rfl
    refine one_ (i := 1) (N := some 34) #[true, true, true, false, true, false, false, false, false, false, false] rfl rfl (one_of HT_.out (by kernel_rfl)) (by decide) (fun K hK => ?_)
    refine goes_ Try.func12 (by kernel_rfl) rfl #[.agg #[.int .i64 a0_0, .int .i64 a0_1, .int .i64 a0_2, .int .i64 a0_3]] (by rfl) rfl rfl (by (try simp only [List.map_toArray, List.map_cons, List.map_nil]); first | done | rfl | (simp only [List.length_drop, List.length_take]; rfl)) ?_
    with_reducible refine (laws_toSiphon.calls a0_0 a0_1 a0_2 a0_3 t248 t249 t250 t251 _ A12.out).mono ?_
    rintro e w26 ⟨rfl, hb⟩
    refine ⟨_, rfl, ?_⟩
    have n0_ := Aside0.mk (Kd.R_below (xr HO240.out) hb)
    have n1_ := Aside0.mk (Kd.R_below (xr HO243.out) hb)
    have n2_ := Aside0.mk (Kd.R_below (xr HO247.out) hb)
    have n3_ := Aside0.mk (blk_below (g := gb230) (o := .cells #[.int .i64 a0_0, .int .i64 a0_1, .int .i64 a0_2, .int .i64 a0_3] 23 (0, 0)) (xb BK230.out) hb)
    have n4_ := Aside0.mk (blk_below (g := gb231) (o := .cells #[.int .i64 a1_0, .bool a1_1] 25 (0, 0)) (xb BK231.out) hb)
    have n5_ := Aside0.mk (below_step (xs HB.out) hb)
    clear HO240
    clear HO243
    clear HO247
    clear BK230
    clear BK231
    clear HB
    have HO240 := n0_
    have HO243 := n1_
    have HO247 := n2_
    have BK230 := n3_
    have BK231 := n4_
    have HB := n5_
    clear n0_ n1_ n2_ n3_ n4_ n5_
    (try clear hb)
    (try clear hb2)
    (try clear hk)
    (try clear hi)
    refine hK.out _ _ ⟨(blk_cell BK230.out 0).trans rfl, (blk_cell BK230.out 1).trans rfl, (blk_cell BK230.out 2).trans rfl, (blk_cell BK230.out 3).trans rfl, (blk_cell BK231.out 0).trans rfl, (blk_cell BK231.out 1).trans rfl⟩ (fun hHeld => ?_)
    clear hK K
    refine norm_ (a' := ?_) ?_ ?_
    rotate_left
    · show Act.put _ (some 34) _ = _
      simp only [Act.put, List.setIfInBounds_toArray, List.set_cons_zero, List.set_cons_succ, i64_w, i32_w]
      rfl
    refine one_ (i := 3) (N := some 36) #[true, true, true, true, true, false, false, false, false, false, false] rfl rfl (one_of HT_.out (by kernel_rfl)) (by decide) (fun K hK => ?_)
    refine goes_ Try.func13 (by kernel_rfl) rfl #[.agg #[.int .i64 a1_0, .bool a1_1]] (by rfl) rfl rfl (by (try simp only [List.map_toArray, List.map_cons, List.map_nil]); first | done | rfl | (simp only [List.length_drop, List.length_take]; rfl)) ?_
    with_reducible refine (laws_toLevel.calls a1_0 a1_1 t252 t253 _ A13.out).mono ?_
    rintro e w27 ⟨rfl, hb⟩
    refine ⟨_, rfl, ?_⟩
    have n0_ := Aside0.mk (Kd.R_below (xr HO240.out) hb)
    have n1_ := Aside0.mk (Kd.R_below (xr HO243.out) hb)
    have n2_ := Aside0.mk (Kd.R_below (xr HO247.out) hb)
    have n3_ := Aside0.mk (blk_below (g := gb230) (o := .cells #[.int .i64 a0_0, .int .i64 a0_1, .int .i64 a0_2, .int .i64 a0_3] 23 (0, 0)) (xb BK230.out) hb)
    have n4_ := Aside0.mk (blk_below (g := gb231) (o := .cells #[.int .i64 a1_0, .bool a1_1] 25 (0, 0)) (xb BK231.out) hb)
    have n5_ := Aside0.mk (below_step (xs HB.out) hb)
    clear HO240
    clear HO243
    clear HO247
    clear BK230
    clear BK231
    clear HB
    have HO240 := n0_
    have HO243 := n1_
    have HO247 := n2_
    have BK230 := n3_
    have BK231 := n4_
    have HB := n5_
    clear n0_ n1_ n2_ n3_ n4_ n5_
    (try clear hb)
    (try clear hb2)
    (try clear hk)
    (try clear hi)
    obtain ⟨Ao28, co28, eo28⟩ := Kd.R_slice HO247.out
    (first | subst eo28 | (injection eo28 with f1_ f2_ f3_; have f4_ := f1_.symm; have f5_ := f3_.symm; clear f1_ f2_ f3_; subst f4_; subst f5_))
    refine hK.out _ _ ⟨(blk_cell BK230.out 0).trans rfl, (blk_cell BK230.out 1).trans rfl, (blk_cell BK230.out 2).trans rfl, (blk_cell BK230.out 3).trans rfl, (blk_cell BK231.out 0).trans rfl, (blk_cell BK231.out 1).trans rfl⟩ (fun hHeld => ?_)
    clear hK K
    refine norm_ (a' := ?_) ?_ ?_
    rotate_left
    · show Act.put _ (some 36) _ = _
      simp only [Act.put, List.setIfInBounds_toArray, List.set_cons_zero, List.set_cons_succ, i64_w, i32_w]
      rfl
    refine one_ (i := 5) (N := some 38) #[true, true, true, true, true, true, false, false, false, false, false] rfl rfl (one_of HT_.out (by kernel_rfl)) (by decide) (fun K hK => ?_)
    refine goes_ Try.func22 (by kernel_rfl) rfl #[.agg #[.int .i64 t248, .int .i64 t249, .int .i64 t250, .int .i64 t251], .agg #[.int .i64 t252, .bool t253], .slice Ao28 t245.length co28] (by rfl) rfl rfl (by (try simp only [List.map_toArray, List.map_cons, List.map_nil]); first | done | rfl | (simp only [List.length_drop, List.length_take]; rfl)) ?_
    with_reducible refine (impl_LevelsOf.calls k t248 t249 t250 t251 t252 t253 _ _ t245 t254 t257 _ ?side1 ?side2 A14.out).mono ?_
    (case side1 => repeat (first | exact (Kd.R_reads' HO247.out).2.2 | (with_reducible refine Kd.C_alloc ?_ _) | (with_reducible refine Kd.C_drewN ?_ _) | (with_reducible refine Kd.C_drew ?_)))
    (case side2 => exact (Kd.R_reads' HO247.out).2.1)
    rintro e w29 ⟨v255, rfl, ho0, hb⟩
    refine ⟨_, rfl, ?_⟩
    have n0_ := Aside0.mk (Kd.R_below (xr HO240.out) hb)
    have n1_ := Aside0.mk (Kd.R_elder' (xr HO243.out) (Kd.R_base ho0) hb)
    have n2_ := Aside0.mk (Kd.R_below (xr HO247.out) hb)
    have n3_ := Aside0.mk (Kd.R_lower (Kd.R_new' ho0 (Kd.R_lt (xr HO243.out))) (below_size (xs HB.out)))
    have n4_ := Aside0.mk (blk_below (g := gb230) (o := .cells #[.int .i64 a0_0, .int .i64 a0_1, .int .i64 a0_2, .int .i64 a0_3] 23 (0, 0)) (xb BK230.out) hb)
    have n5_ := Aside0.mk (blk_below (g := gb231) (o := .cells #[.int .i64 a1_0, .bool a1_1] 25 (0, 0)) (xb BK231.out) hb)
    have n6_ := Aside0.mk (below_step (xs HB.out) hb)
    clear HO240
    clear HO243
    clear HO247
    clear BK230
    clear BK231
    clear HB
    have HO240 := n0_
    have HO243 := n1_
    have HO247 := n2_
    have HO256 := n3_
    have BK230 := n4_
    have BK231 := n5_
    have HB := n6_
    clear n0_ n1_ n2_ n3_ n4_ n5_ n6_
    (try clear hb)
    (try clear hb2)
    (try clear hk)
    (try clear hi)
    (try clear ho0)
    refine hK.out _ _ ⟨(blk_cell BK230.out 0).trans rfl, (blk_cell BK230.out 1).trans rfl, (blk_cell BK230.out 2).trans rfl, (blk_cell BK230.out 3).trans rfl, (blk_cell BK231.out 0).trans rfl, (blk_cell BK231.out 1).trans rfl⟩ (fun hHeld => ?_)
    clear hK K
    refine norm_ (a' := ?_) ?_ ?_
    rotate_left
    · show Act.put _ (some 38) _ = _
      simp only [Act.put, List.setIfInBounds_toArray, List.set_cons_zero, List.set_cons_succ, i64_w, i32_w]
      rfl
    refine pure_ (i := 6) (N := some 32) (v := ?_) (a' := ?_) #[true, true, true, true, true, true, true, false, false, false, false] rfl rfl (any_of HT_.out (by kernel_rfl)) (fun _ _ _ h => h) (Or.inl ⟨by rfl, ?_⟩) ?_ ?_
    rotate_left
    · intro w'
      go_simp
      with_reducible rfl
    rotate_left
    · simp only [Act.put, List.setIfInBounds_toArray, List.set_cons_zero, List.set_cons_succ, i64_w, i32_w]
      rfl
    refine pure_ (i := 7) (N := some 39) (v := ?_) (a' := ?_) #[true, true, true, true, true, true, true, true, false, false, false] rfl rfl (any_of HT_.out (by kernel_rfl)) (fun _ _ _ h => h) (Or.inl ⟨by rfl, ?_⟩) ?_ ?_
    rotate_left
    · intro w'
      go_simp
      with_reducible rfl
    rotate_left
    · simp only [Act.put, List.setIfInBounds_toArray, List.set_cons_zero, List.set_cons_succ, i64_w, i32_w]
      rfl
    refine pure_ (i := 8) (N := some 40) (v := ?_) (a' := ?_) #[true, true, true, true, true, true, true, true, true, false, false] rfl rfl (any_of HT_.out (by kernel_rfl)) (fun _ _ _ h => h) (Or.inl ⟨by rfl, ?_⟩) ?_ ?_
    rotate_left
    · intro w'
      go_simp
      with_reducible rfl
    rotate_left
    · simp only [Act.put, List.setIfInBounds_toArray, List.set_cons_zero, List.set_cons_succ, i64_w, i32_w]
      rfl
    refine pure_ (i := 9) (N := some 10) (v := ?_) (a' := ?_) #[true, true, true, true, true, true, true, true, true, true, false] rfl rfl (any_of HT_.out (by kernel_rfl)) (fun _ _ _ h => h) (Or.inl ⟨by rfl, ?_⟩) ?_ ?_
    rotate_left
    · intro w'
      go_simp
      with_reducible rfl
    rotate_left
    · simp only [Act.put, List.setIfInBounds_toArray, List.set_cons_zero, List.set_cons_succ, i64_w, i32_w]
      rfl
    refine pure_ (i := 10) (N := some 11) (v := ?_) (a' := ?_) #[true, true, true, true, true, true, true, true, true, true, true] rfl rfl (any_of HT_.out (by kernel_rfl)) (fun _ _ _ h => h) (Or.inl ⟨by rfl, ?_⟩) ?_ ?_
    rotate_left
    · intro w'
      go_simp
      with_reducible rfl
    rotate_left
    · simp only [Act.put, List.setIfInBounds_toArray, List.set_cons_zero, List.set_cons_succ, i64_w, i32_w]
      rfl
    refine done_ (done_of HT_.out (by kernel_rfl)) ?_
    go_upto_region 6 with (fail)
    go_cut [49] (fun v49 wc => ∃ (kq : Nat) (x49_14 : Bool), v49 = .bool x49_14 ∧ Aside0 (laws_FnExactLevelsOf.j0 kq l2 t241 t244 t245 t254 t257 x49_14 a0_0 a0_1 a0_2 a0_3 a1_0 a1_1 = some true) ∧ Aside0 (kq ≤ k) ∧ Aside0 (Kd.R k31 31 wc w.heap.size (fun k_ => some k_ ≠ (v255 : Value).ownBlock) v242 t241) ∧ Aside0 (Kd.R (Kd.int .i64) 3 wc w.heap.size (fun _ => True) (.slice Ao28 t245.length co28) t245) ∧ Aside0 (Kd.R k31 31 wc w.heap.size (fun k_ => some k_ ≠ (v242 : Value).ownBlock) v255 t254) ∧ Aside0 (wc.heap[gb230]? = some (.cells #[.int .i64 a0_0, .int .i64 a0_1, .int .i64 a0_2, .int .i64 a0_3] 23 (0, 0))) ∧ Aside0 (wc.heap[gb231]? = some (.cells #[.int .i64 a1_0, .bool a1_1] 25 (0, 0))) ∧ Aside0 (Below w.heap.size w wc))
    case first =>
      have H := HC15.out
      clear HC15
      replace H := Option.bind_eq_some_iff.mp H
      obtain ⟨t258, A300, H⟩ := H
      replace H : (if t258 = true then (laws_FnExactLevelsOf.j0 k l2 t241 t244 t245 t254 t257 (t257 != t244) a0_0 a0_1 a0_2 a0_3 a1_0 a1_1) else (laws_FnExactLevelsOf.j0 k l2 t241 t244 t245 t254 t257 true a0_0 a0_1 a0_2 a0_3 a1_0 a1_1)) = some true := H
      have A30 := Aside0.mk A300
      clear A300
      by_cases c31 : t258 = true
      · subst c31
        have H1 : (laws_FnExactLevelsOf.j0 k l2 t241 t244 t245 t254 t257 (t257 != t244) a0_0 a0_1 a0_2 a0_3 a1_0 a1_1) = some true := by first | (rw [if_pos rfl] at H; exact H) | rfl
        clear H
        have H := H1
        clear H1
        have H' := Aside0.mk H
        clear H
        obtain ⟨Ao32, co32, eo32⟩ := Kd.R_slice HO256.out
        subst eo32
        obtain ⟨Ao33, co33, eo33⟩ := Kd.R_slice HO243.out
        subst eo33
        go_wp2_with (first | ((with_reducible refine gate_callee (f := 23) rfl ?_); refine goesL_ (some 43) rfl rfl Try.func23 (by kernel_rfl) rfl #[.slice Ao32 t254.length co32, .slice Ao33 t241.length co33] rfl (by (try simp only [List.map_toArray, List.map_cons, List.map_nil]); first | done | rfl | (simp only [List.length_drop, List.length_take]; rfl)) ?_; (with_reducible refine (laws_eqLevelS.calls k _ _ t254 _ _ t241 true _ ?side1 ?side2 ?side3 ?side4 A30.out).mono ?_); (case side1 => repeat (first | exact (Kd.R_reads' HO256.out).2.2 | (with_reducible refine Kd.C_alloc ?_ _) | (with_reducible refine Kd.C_drewN ?_ _) | (with_reducible refine Kd.C_drew ?_))); (case side2 => exact (Kd.R_reads' HO256.out).2.1); (case side3 => repeat (first | exact (Kd.R_reads' HO243.out).2.2 | (with_reducible refine Kd.C_alloc ?_ _) | (with_reducible refine Kd.C_drewN ?_ _) | (with_reducible refine Kd.C_drew ?_))); (case side4 => exact (Kd.R_reads' HO243.out).2.1); rintro e w34 ⟨rfl, hb⟩; refine ⟨_, rfl, ?_⟩; have n0_ := Aside0.mk (Kd.R_below (xr HO240.out) hb); have n1_ := Aside0.mk (Kd.R_below (xr HO243.out) hb); have n2_ := Aside0.mk (Kd.R_below (xr HO247.out) hb); have n3_ := Aside0.mk (Kd.R_below (xr HO256.out) hb); have n4_ := Aside0.mk (blk_below (g := gb230) (o := .cells #[.int .i64 a0_0, .int .i64 a0_1, .int .i64 a0_2, .int .i64 a0_3] 23 (0, 0)) (xb BK230.out) hb); have n5_ := Aside0.mk (blk_below (g := gb231) (o := .cells #[.int .i64 a1_0, .bool a1_1] 25 (0, 0)) (xb BK231.out) hb); have n6_ := Aside0.mk (below_step (xs HB.out) hb); clear HO240; clear HO243; clear HO247; clear HO256; clear BK230; clear BK231; clear HB; have HO240 := n0_; have HO243 := n1_; have HO247 := n2_; have HO256 := n3_; have BK230 := n4_; have BK231 := n5_; have HB := n6_; clear n0_ n1_ n2_ n3_ n4_ n5_ n6_; (try clear hb); (try clear hb2); (try clear hk); (try clear hi)))
        go_meet
        case rel => exact ⟨_, ((t257 != t244)), (by first | rfl | (simp; done) | (simp [*]; done)), H', ⟨by first | omega | exact Nat.le_refl _⟩, ⟨by (with_reducible repeat (first | apply Kd.R_alloc | apply Kd.R_drewN | apply Kd.R_drew)); exact Kd.R_mono HO243.out (fun _ hk => hk.2)⟩, ⟨by (with_reducible repeat (first | apply Kd.R_alloc | apply Kd.R_drewN | apply Kd.R_drew)); exact Kd.R_mono HO247.out (fun _ hk => trivial)⟩, ⟨by (with_reducible repeat (first | apply Kd.R_alloc | apply Kd.R_drewN | apply Kd.R_drew)); exact Kd.R_mono HO256.out (fun _ hk => hk.2)⟩, ⟨xb BK230.out⟩, ⟨xb BK231.out⟩, ⟨xs HB.out⟩⟩
      · replace c31 := Bool.eq_false_iff.mpr c31
        subst c31
        have H1 : (laws_FnExactLevelsOf.j0 k l2 t241 t244 t245 t254 t257 true a0_0 a0_1 a0_2 a0_3 a1_0 a1_1) = some true := by first | (rw [if_neg (show ¬ (false = true) by decide)] at H; exact H) | rfl
        clear H
        have H := H1
        clear H1
        have H' := Aside0.mk H
        clear H
        obtain ⟨Ao35, co35, eo35⟩ := Kd.R_slice HO256.out
        subst eo35
        obtain ⟨Ao36, co36, eo36⟩ := Kd.R_slice HO243.out
        subst eo36
        go_wp2_with (first | ((with_reducible refine gate_callee (f := 23) rfl ?_); refine goesL_ (some 43) rfl rfl Try.func23 (by kernel_rfl) rfl #[.slice Ao35 t254.length co35, .slice Ao36 t241.length co36] rfl (by (try simp only [List.map_toArray, List.map_cons, List.map_nil]); first | done | rfl | (simp only [List.length_drop, List.length_take]; rfl)) ?_; (with_reducible refine (laws_eqLevelS.calls k _ _ t254 _ _ t241 false _ ?side1 ?side2 ?side3 ?side4 A30.out).mono ?_); (case side1 => repeat (first | exact (Kd.R_reads' HO256.out).2.2 | (with_reducible refine Kd.C_alloc ?_ _) | (with_reducible refine Kd.C_drewN ?_ _) | (with_reducible refine Kd.C_drew ?_))); (case side2 => exact (Kd.R_reads' HO256.out).2.1); (case side3 => repeat (first | exact (Kd.R_reads' HO243.out).2.2 | (with_reducible refine Kd.C_alloc ?_ _) | (with_reducible refine Kd.C_drewN ?_ _) | (with_reducible refine Kd.C_drew ?_))); (case side4 => exact (Kd.R_reads' HO243.out).2.1); rintro e w37 ⟨rfl, hb⟩; refine ⟨_, rfl, ?_⟩; have n0_ := Aside0.mk (Kd.R_below (xr HO240.out) hb); have n1_ := Aside0.mk (Kd.R_below (xr HO243.out) hb); have n2_ := Aside0.mk (Kd.R_below (xr HO247.out) hb); have n3_ := Aside0.mk (Kd.R_below (xr HO256.out) hb); have n4_ := Aside0.mk (blk_below (g := gb230) (o := .cells #[.int .i64 a0_0, .int .i64 a0_1, .int .i64 a0_2, .int .i64 a0_3] 23 (0, 0)) (xb BK230.out) hb); have n5_ := Aside0.mk (blk_below (g := gb231) (o := .cells #[.int .i64 a1_0, .bool a1_1] 25 (0, 0)) (xb BK231.out) hb); have n6_ := Aside0.mk (below_step (xs HB.out) hb); clear HO240; clear HO243; clear HO247; clear HO256; clear BK230; clear BK231; clear HB; have HO240 := n0_; have HO243 := n1_; have HO247 := n2_; have HO256 := n3_; have BK230 := n4_; have BK231 := n5_; have HB := n6_; clear n0_ n1_ n2_ n3_ n4_ n5_ n6_; (try clear hb); (try clear hb2); (try clear hk); (try clear hi)))
        go_meet
        case rel => exact ⟨_, (true), (by first | rfl | (simp; done) | (simp [*]; done)), H', ⟨by first | omega | exact Nat.le_refl _⟩, ⟨by (with_reducible repeat (first | apply Kd.R_alloc | apply Kd.R_drewN | apply Kd.R_drew)); exact Kd.R_mono HO243.out (fun _ hk => hk.2)⟩, ⟨by (with_reducible repeat (first | apply Kd.R_alloc | apply Kd.R_drewN | apply Kd.R_drew)); exact Kd.R_mono HO247.out (fun _ hk => trivial)⟩, ⟨by (with_reducible repeat (first | apply Kd.R_alloc | apply Kd.R_drewN | apply Kd.R_drew)); exact Kd.R_mono HO256.out (fun _ hk => hk.2)⟩, ⟨xb BK230.out⟩, ⟨xb BK231.out⟩, ⟨xs HB.out⟩⟩
    case rest =>
      clear HC15
      try clear c1
      try clear c2
      try clear p2
      try clear c3
      try clear c4
      try clear c4b0
      try clear c4b1
      try clear c5
      try clear c12
      try clear c13
      try clear c14
      try clear c21
      try clear c22
      try clear c23
      try clear c31
      obtain ⟨kq, x49_14, rfl, HA, HJ14, HO_7, HO_9, HO_10, BK230, BK231, HB⟩ := hcut
      cases kq with
      | zero => exact absurd HA.out (by simp [laws_FnExactLevelsOf.j0])
      | succ kj14 =>
        have H := HA.out
        clear HA
        simp only [laws_FnExactLevelsOf.j0] at H
        by_cases c38 : x49_14 = true
        · subst c38
          have H1 : (some false) = some true := by first | (rw [if_pos rfl] at H; exact H) | rfl
          clear H
          have H := H1
          clear H1
          exact absurd H (by simp)
        · replace c38 := Bool.eq_false_iff.mpr c38
          subst c38
          have H1 : ((laws_toIntS.f kj14 l2).bind fun t259 => ((laws_eqIntS.f kj14 t245 t259).bind fun t262 => (if t262 = true then ((laws_markIntS.f kj14 t245 1).bind fun bt263 => (if bt263.1 < 0 then (laws_FnExactLevelsOf.j1 kj14 l2 t241 t244 t254 true a0_0 a0_1 a0_2 a0_3 a1_0 a1_1) else ((laws_eqLevelS.f kj14 t254 t241).bind fun t265 => (if t265 = true then (laws_FnExactLevelsOf.j1 kj14 l2 t241 t244 t254 (t257 != t244) a0_0 a0_1 a0_2 a0_3 a1_0 a1_1) else (laws_FnExactLevelsOf.j1 kj14 l2 t241 t244 t254 true a0_0 a0_1 a0_2 a0_3 a1_0 a1_1))))) else (some false)))) = some true := by first | (rw [if_neg (show ¬ (false = true) by decide)] at H; exact H) | rfl
          clear H
          have H := H1
          clear H1
          replace H := Option.bind_eq_some_iff.mp H
          obtain ⟨t259, A390, H⟩ := H
          replace H : ((laws_eqIntS.f kj14 t245 t259).bind fun t262 => (if t262 = true then ((laws_markIntS.f kj14 t245 1).bind fun bt263 => (if bt263.1 < 0 then (laws_FnExactLevelsOf.j1 kj14 l2 t241 t244 t254 true a0_0 a0_1 a0_2 a0_3 a1_0 a1_1) else ((laws_eqLevelS.f kj14 t254 t241).bind fun t265 => (if t265 = true then (laws_FnExactLevelsOf.j1 kj14 l2 t241 t244 t254 (t257 != t244) a0_0 a0_1 a0_2 a0_3 a1_0 a1_1) else (laws_FnExactLevelsOf.j1 kj14 l2 t241 t244 t254 true a0_0 a0_1 a0_2 a0_3 a1_0 a1_1))))) else (some false))) = some true := H
          have A39 := Aside0.mk A390
          clear A390
          replace H := Option.bind_eq_some_iff.mp H
          obtain ⟨t262, A400, H⟩ := H
          replace H : (if t262 = true then ((laws_markIntS.f kj14 t245 1).bind fun bt263 => (if bt263.1 < 0 then (laws_FnExactLevelsOf.j1 kj14 l2 t241 t244 t254 true a0_0 a0_1 a0_2 a0_3 a1_0 a1_1) else ((laws_eqLevelS.f kj14 t254 t241).bind fun t265 => (if t265 = true then (laws_FnExactLevelsOf.j1 kj14 l2 t241 t244 t254 (t257 != t244) a0_0 a0_1 a0_2 a0_3 a1_0 a1_1) else (laws_FnExactLevelsOf.j1 kj14 l2 t241 t244 t254 true a0_0 a0_1 a0_2 a0_3 a1_0 a1_1))))) else (some false)) = some true := H
          have A40 := Aside0.mk A400
          clear A400
          by_cases c41 : t262 = true
          · subst c41
            have H1 : ((laws_markIntS.f kj14 t245 1).bind fun bt263 => (if bt263.1 < 0 then (laws_FnExactLevelsOf.j1 kj14 l2 t241 t244 t254 true a0_0 a0_1 a0_2 a0_3 a1_0 a1_1) else ((laws_eqLevelS.f kj14 t254 t241).bind fun t265 => (if t265 = true then (laws_FnExactLevelsOf.j1 kj14 l2 t241 t244 t254 (t257 != t244) a0_0 a0_1 a0_2 a0_3 a1_0 a1_1) else (laws_FnExactLevelsOf.j1 kj14 l2 t241 t244 t254 true a0_0 a0_1 a0_2 a0_3 a1_0 a1_1))))) = some true := by first | (rw [if_pos rfl] at H; exact H) | rfl
            clear H
            have H := H1
            clear H1
            replace H := Option.bind_eq_some_iff.mp H
            obtain ⟨⟨t263, t264⟩, A420, H⟩ := H
            replace H : (if t263 < 0 then (laws_FnExactLevelsOf.j1 kj14 l2 t241 t244 t254 true a0_0 a0_1 a0_2 a0_3 a1_0 a1_1) else ((laws_eqLevelS.f kj14 t254 t241).bind fun t265 => (if t265 = true then (laws_FnExactLevelsOf.j1 kj14 l2 t241 t244 t254 (t257 != t244) a0_0 a0_1 a0_2 a0_3 a1_0 a1_1) else (laws_FnExactLevelsOf.j1 kj14 l2 t241 t244 t254 true a0_0 a0_1 a0_2 a0_3 a1_0 a1_1)))) = some true := H
            have A42 := Aside0.mk A420
            clear A420
            have HC43 := Aside0.mk H
            clear H
            go_upto_region 12 with (first | ((with_reducible refine gate_callee (f := 14) rfl ?_); refine goesL_ (some 52) rfl rfl Try.func14 (by kernel_rfl) rfl #[.slice A2 l2.length c2] rfl (by (try simp only [List.map_toArray, List.map_cons, List.map_nil]); first | done | rfl | (simp only [List.length_drop, List.length_take]; rfl)) ?_; (with_reducible refine (laws_toIntS.calls kj14 _ _ l2 t259 _ ?side1 ?side2 A39.out).mono ?_); (case side1 => repeat (first | exact (Kd.C_below HR2.out HB.out) | (with_reducible refine Kd.C_alloc ?_ _) | (with_reducible refine Kd.C_drewN ?_ _) | (with_reducible refine Kd.C_drew ?_))); (case side2 => exact HC2.out); rintro e w44 ⟨v260, rfl, ho0, hb⟩; refine ⟨_, rfl, ?_⟩; have n0_ := Aside0.mk (Kd.R_below (xr HO_7.out) hb); have n1_ := Aside0.mk (Kd.R_elder' (xr HO_9.out) (Kd.R_base ho0) hb); have n2_ := Aside0.mk (Kd.R_below (xr HO_10.out) hb); have n3_ := Aside0.mk (Kd.R_lower (Kd.R_new' ho0 (Kd.R_lt (xr HO_9.out))) (below_size (xs HB.out))); have n4_ := Aside0.mk (blk_below (g := gb230) (o := .cells #[.int .i64 a0_0, .int .i64 a0_1, .int .i64 a0_2, .int .i64 a0_3] 23 (0, 0)) (xb BK230.out) hb); have n5_ := Aside0.mk (blk_below (g := gb231) (o := .cells #[.int .i64 a1_0, .bool a1_1] 25 (0, 0)) (xb BK231.out) hb); have n6_ := Aside0.mk (below_step (xs HB.out) hb); clear HO_7; clear HO_9; clear HO_10; clear BK230; clear BK231; clear HB; have HO_7 := n0_; have HO_9 := n1_; have HO_10 := n2_; have HO261 := n3_; have BK230 := n4_; have BK231 := n5_; have HB := n6_; clear n0_ n1_ n2_ n3_ n4_ n5_ n6_; (try clear hb); (try clear hb2); (try clear hk); (try clear hi); (try clear ho0); obtain ⟨Ao45, co45, eo45⟩ := Kd.R_slice HO261.out; subst eo45) | ((with_reducible refine gate_callee (f := 16) rfl ?_); refine goesL_ (some 53) rfl rfl Try.func16 (by kernel_rfl) rfl #[.slice Ao28 t245.length co28, .slice Ao45 t259.length co45] rfl (by (try simp only [List.map_toArray, List.map_cons, List.map_nil]); first | done | rfl | (simp only [List.length_drop, List.length_take]; rfl)) ?_; (with_reducible refine (laws_eqIntS.calls kj14 _ _ t245 _ _ t259 true _ ?side1 ?side2 ?side3 ?side4 A40.out).mono ?_); (case side1 => repeat (first | exact (Kd.R_reads' HO_9.out).2.2 | (with_reducible refine Kd.C_alloc ?_ _) | (with_reducible refine Kd.C_drewN ?_ _) | (with_reducible refine Kd.C_drew ?_))); (case side2 => exact (Kd.R_reads' HO_9.out).2.1); (case side3 => repeat (first | exact (Kd.R_reads' HO261.out).2.2 | (with_reducible refine Kd.C_alloc ?_ _) | (with_reducible refine Kd.C_drewN ?_ _) | (with_reducible refine Kd.C_drew ?_))); (case side4 => exact (Kd.R_reads' HO261.out).2.1); rintro e w' ⟨rfl, ⟨nd, rfl⟩⟩; refine ⟨_, rfl, ?_⟩) | ((with_reducible refine gate_callee (f := 19) rfl ?_); refine goesL_ (some 57) rfl rfl Try.func19 (by kernel_rfl) rfl #[.slice Ao28 t245.length co28, .int .i64 1] rfl (by (try simp only [List.map_toArray, List.map_cons, List.map_nil]); first | done | rfl | (simp only [List.length_drop, List.length_take]; rfl)) ?_; (with_reducible refine (laws_markIntS.calls kj14 (fun k_ => some k_ = (.slice Ao28 t245.length co28 : Value).ownBlock) (.slice Ao28 t245.length co28) t245 1 t263 t264 w _ ?side1 ?side2 A42.out).mono ?_); (case side1 => repeat (first | (with_reducible first | exact HB.out | apply below_alloc | apply pw_below_drewN | apply below_drew1 | refine below_set ?_ GE230.out | refine below_set ?_ GE231.out) | exact HB.out)); (case side2 => exact Kd.R_tight rfl HO_9.out); rintro e w46 ⟨rfl, hy0, hb, hkp⟩; refine ⟨_, rfl, ?_⟩; have n0_ := Aside0.mk (Kd.R_mono (ok' := fun k_ => some k_ ≠ (v255 : Value).ownBlock) (Kd.R_keptB ((Kd.R_apart' HO_7.out (Kd.R_typed HO_9.out) (by decide))) hkp (fun k_ hk_ hs_ => (hk_.2) hs_)) (fun k_ hk_ => hk_.1.1)); have n1_ := Aside0.mk (Kd.R_reok rfl hy0 (fun k_ e_ => HO_9.out.1 k_ e_)); have n2_ := Aside0.mk (Kd.R_mono (ok' := fun k_ => some k_ ≠ (v242 : Value).ownBlock) (Kd.R_keptB ((Kd.R_apart' HO_10.out (Kd.R_typed HO_9.out) (by decide))) hkp (fun k_ hk_ hs_ => (hk_.2) hs_)) (fun k_ hk_ => hk_.1.1)); have n3_ := Aside0.mk (blk_kept (xb BK230.out) hkp (fun hs_ => (fun e_ => (Kd.R_ne HO_9.out BK230.out (by decide)) e_) hs_)); have n4_ := Aside0.mk (blk_kept (xb BK231.out) hkp (fun hs_ => (fun e_ => (Kd.R_ne HO_9.out BK231.out (by decide)) e_) hs_)); have n5_ := Aside0.mk (Kd.R_mono (ok' := fun k_ => some k_ ≠ (.slice Ao28 t245.length co28 : Value).ownBlock) (Kd.R_keptB (HO261.out) hkp (fun k_ hk_ hs_ => (hk_.2) hs_)) (fun k_ hk_ => hk_.1.2)); have n6_ := Aside0.mk (hb); clear HO_7; clear HO_9; clear HO_10; clear BK230; clear BK231; clear HO261; clear HB; have HO_7 := n0_; have HO_9 := n1_; have HO_10 := n2_; have BK230 := n3_; have BK231 := n4_; have HO261 := n5_; have HB := n6_; clear n0_ n1_ n2_ n3_ n4_ n5_ n6_; (try clear hb); (try clear hkp); (try clear hy0)))
            (try simp only [Act.put, List.setIfInBounds_toArray, List.set_cons_zero, List.set_cons_succ])
            go_cut [70] (fun v70 wc => ∃ (kq : Nat) (x70_42 : Bool), v70 = .bool x70_42 ∧ Aside0 (laws_FnExactLevelsOf.j1 kq l2 t241 t244 t254 x70_42 a0_0 a0_1 a0_2 a0_3 a1_0 a1_1 = some true) ∧ Aside0 (kq ≤ kj14) ∧ Aside0 (Kd.R k31 31 wc w.heap.size (fun k_ => some k_ ≠ (v255 : Value).ownBlock) v242 t241) ∧ Aside0 (Kd.R k31 31 wc w.heap.size (fun k_ => some k_ ≠ (v242 : Value).ownBlock) v255 t254) ∧ Aside0 (wc.heap[gb230]? = some (.cells #[.int .i64 a0_0, .int .i64 a0_1, .int .i64 a0_2, .int .i64 a0_3] 23 (0, 0))) ∧ Aside0 (wc.heap[gb231]? = some (.cells #[.int .i64 a1_0, .bool a1_1] 25 (0, 0))) ∧ Aside0 (Below w.heap.size w wc))
            case first =>
              have H := HC43.out
              clear HC43
              by_cases c47 : t263 < 0
              · rw [if_pos c47] at H
                have c47b0 : decide (t263 < 0) = true := decide_eq_true c47
                clear c47
                (first | rw [c47b0] | (simp only [i64_w, i32_w]; rw [c47b0]) | skip)
                have H' := Aside0.mk H
                clear H
                go_wp2
                go_meet
                case rel => exact ⟨_, (true), (by first | rfl | (simp; done) | (simp [*]; done)), H', ⟨by have := HJ14.out; first | omega | exact Nat.le_refl _⟩, ⟨xr HO_7.out⟩, ⟨xr HO_10.out⟩, ⟨xb BK230.out⟩, ⟨xb BK231.out⟩, ⟨xs HB.out⟩⟩
              · rw [if_neg c47] at H
                have c47b0 : decide (t263 < 0) = false := decide_eq_false c47
                clear c47
                (first | rw [c47b0] | (simp only [i64_w, i32_w]; rw [c47b0]) | skip)
                replace H := Option.bind_eq_some_iff.mp H
                obtain ⟨t265, A480, H⟩ := H
                replace H : (if t265 = true then (laws_FnExactLevelsOf.j1 kj14 l2 t241 t244 t254 (t257 != t244) a0_0 a0_1 a0_2 a0_3 a1_0 a1_1) else (laws_FnExactLevelsOf.j1 kj14 l2 t241 t244 t254 true a0_0 a0_1 a0_2 a0_3 a1_0 a1_1)) = some true := H
                have A48 := Aside0.mk A480
                clear A480
                by_cases c49 : t265 = true
                · subst c49
                  have H1 : (laws_FnExactLevelsOf.j1 kj14 l2 t241 t244 t254 (t257 != t244) a0_0 a0_1 a0_2 a0_3 a1_0 a1_1) = some true := by first | (rw [if_pos rfl] at H; exact H) | rfl
                  clear H
                  have H := H1
                  clear H1
                  have H' := Aside0.mk H
                  clear H
                  obtain ⟨Ao50, co50, eo50⟩ := Kd.R_slice HO_10.out
                  subst eo50
                  obtain ⟨Ao51, co51, eo51⟩ := Kd.R_slice HO_7.out
                  subst eo51
                  go_wp2_with (first | (go_at_call 23; (with_reducible refine (laws_eqLevelS.calls kj14 _ _ t254 _ _ t241 true _ ?side1 ?side2 ?side3 ?side4 A48.out).mono ?_); (case side1 => repeat (first | exact (Kd.R_reads' HO_10.out).2.2 | (with_reducible refine Kd.C_alloc ?_ _) | (with_reducible refine Kd.C_drewN ?_ _) | (with_reducible refine Kd.C_drew ?_))); (case side2 => exact (Kd.R_reads' HO_10.out).2.1); (case side3 => repeat (first | exact (Kd.R_reads' HO_7.out).2.2 | (with_reducible refine Kd.C_alloc ?_ _) | (with_reducible refine Kd.C_drewN ?_ _) | (with_reducible refine Kd.C_drew ?_))); (case side4 => exact (Kd.R_reads' HO_7.out).2.1); rintro e w52 ⟨rfl, hb⟩; have n0_ := Aside0.mk (Kd.R_below (xr HO_7.out) hb); have n1_ := Aside0.mk (Kd.R_below (xr HO_9.out) hb); have n2_ := Aside0.mk (Kd.R_below (xr HO_10.out) hb); have n3_ := Aside0.mk (Kd.R_below (xr HO261.out) hb); have n4_ := Aside0.mk (blk_below (g := gb230) (o := .cells #[.int .i64 a0_0, .int .i64 a0_1, .int .i64 a0_2, .int .i64 a0_3] 23 (0, 0)) (xb BK230.out) hb); have n5_ := Aside0.mk (blk_below (g := gb231) (o := .cells #[.int .i64 a1_0, .bool a1_1] 25 (0, 0)) (xb BK231.out) hb); have n6_ := Aside0.mk (below_step (xs HB.out) hb); clear HO_7; clear HO_9; clear HO_10; clear HO261; clear BK230; clear BK231; clear HB; have HO_7 := n0_; have HO_9 := n1_; have HO_10 := n2_; have HO261 := n3_; have BK230 := n4_; have BK231 := n5_; have HB := n6_; clear n0_ n1_ n2_ n3_ n4_ n5_ n6_; (try clear hb); (try clear hb2); (try clear hk); (try clear hi)))
                  go_meet
                  case rel => exact ⟨_, ((t257 != t244)), (by first | rfl | (simp; done) | (simp [*]; done)), H', ⟨by have := HJ14.out; first | omega | exact Nat.le_refl _⟩, ⟨xr HO_7.out⟩, ⟨xr HO_10.out⟩, ⟨xb BK230.out⟩, ⟨xb BK231.out⟩, ⟨xs HB.out⟩⟩
                · replace c49 := Bool.eq_false_iff.mpr c49
                  subst c49
                  have H1 : (laws_FnExactLevelsOf.j1 kj14 l2 t241 t244 t254 true a0_0 a0_1 a0_2 a0_3 a1_0 a1_1) = some true := by first | (rw [if_neg (show ¬ (false = true) by decide)] at H; exact H) | rfl
                  clear H
                  have H := H1
                  clear H1
                  have H' := Aside0.mk H
                  clear H
                  obtain ⟨Ao53, co53, eo53⟩ := Kd.R_slice HO_10.out
                  subst eo53
                  obtain ⟨Ao54, co54, eo54⟩ := Kd.R_slice HO_7.out
                  subst eo54
                  go_wp2_with (first | (go_at_call 23; (with_reducible refine (laws_eqLevelS.calls kj14 _ _ t254 _ _ t241 false _ ?side1 ?side2 ?side3 ?side4 A48.out).mono ?_); (case side1 => repeat (first | exact (Kd.R_reads' HO_10.out).2.2 | (with_reducible refine Kd.C_alloc ?_ _) | (with_reducible refine Kd.C_drewN ?_ _) | (with_reducible refine Kd.C_drew ?_))); (case side2 => exact (Kd.R_reads' HO_10.out).2.1); (case side3 => repeat (first | exact (Kd.R_reads' HO_7.out).2.2 | (with_reducible refine Kd.C_alloc ?_ _) | (with_reducible refine Kd.C_drewN ?_ _) | (with_reducible refine Kd.C_drew ?_))); (case side4 => exact (Kd.R_reads' HO_7.out).2.1); rintro e w55 ⟨rfl, hb⟩; have n0_ := Aside0.mk (Kd.R_below (xr HO_7.out) hb); have n1_ := Aside0.mk (Kd.R_below (xr HO_9.out) hb); have n2_ := Aside0.mk (Kd.R_below (xr HO_10.out) hb); have n3_ := Aside0.mk (Kd.R_below (xr HO261.out) hb); have n4_ := Aside0.mk (blk_below (g := gb230) (o := .cells #[.int .i64 a0_0, .int .i64 a0_1, .int .i64 a0_2, .int .i64 a0_3] 23 (0, 0)) (xb BK230.out) hb); have n5_ := Aside0.mk (blk_below (g := gb231) (o := .cells #[.int .i64 a1_0, .bool a1_1] 25 (0, 0)) (xb BK231.out) hb); have n6_ := Aside0.mk (below_step (xs HB.out) hb); clear HO_7; clear HO_9; clear HO_10; clear HO261; clear BK230; clear BK231; clear HB; have HO_7 := n0_; have HO_9 := n1_; have HO_10 := n2_; have HO261 := n3_; have BK230 := n4_; have BK231 := n5_; have HB := n6_; clear n0_ n1_ n2_ n3_ n4_ n5_ n6_; (try clear hb); (try clear hb2); (try clear hk); (try clear hi)))
                  go_meet
                  case rel => exact ⟨_, (true), (by first | rfl | (simp; done) | (simp [*]; done)), H', ⟨by have := HJ14.out; first | omega | exact Nat.le_refl _⟩, ⟨xr HO_7.out⟩, ⟨xr HO_10.out⟩, ⟨xb BK230.out⟩, ⟨xb BK231.out⟩, ⟨xs HB.out⟩⟩
            case rest =>
              clear HC43
              try clear c1
              try clear c2
              try clear p2
              try clear c3
              try clear c4
              try clear c4b0
              try clear c4b1
              try clear c5
              try clear c12
              try clear c13
              try clear c14
              try clear c16
              try clear c19
              try clear c21
              try clear c22
              try clear c23
              try clear c31
              try clear c38
              try clear c41
              try clear c47
              try clear c47b0
              try clear c49
              try clear p2
              obtain ⟨kq, x70_42, rfl, HA, HJ42, HO_7, HO_10, BK230, BK231, HB⟩ := hcut
              cases kq with
              | zero => exact absurd HA.out (by simp [laws_FnExactLevelsOf.j1])
              | succ kj42 =>
                have H := HA.out
                clear HA
                simp only [laws_FnExactLevelsOf.j1] at H
                by_cases c56 : x70_42 = true
                · subst c56
                  have H1 : (some false) = some true := by first | (rw [if_pos rfl] at H; exact H) | rfl
                  clear H
                  have H := H1
                  clear H1
                  exact absurd H (by simp)
                · replace c56 := Bool.eq_false_iff.mpr c56
                  subst c56
                  have H1 : ((laws_markLevelS.f kj42 t254 1).bind fun bt266 => ((laws_heldLevelS.f kj42 bt266.2 1).bind fun t268 => (if t268 < 0 then (some false) else (if t268 = bt266.1 then ((laws_toSiphon.f a0_0 a0_1 a0_2 a0_3).bind fun bt269 => ((laws_toLevel.f a1_0 a1_1).bind fun bt273 => ((laws_toIntS.f kj42 l2).bind fun t275 => ((impl_LevelsOf.f kj42 bt269.1 bt269.2.1 bt269.2.2.1 bt269.2.2.2 bt273.1 bt273.2 t275).bind fun bt278 => ((laws_eqLevelS.f kj42 bt278.1 t241).bind fun t282 => (if t282 = true then (laws_FnExactLevelsOf.j2 kj42 bt266.2 bt266.1 (bt278.2 != t244)) else (laws_FnExactLevelsOf.j2 kj42 bt266.2 bt266.1 true))))))) else (some false))))) = some true := by first | (rw [if_neg (show ¬ (false = true) by decide)] at H; exact H) | rfl
                  clear H
                  have H := H1
                  clear H1
                  replace H := Option.bind_eq_some_iff.mp H
                  obtain ⟨⟨t266, t267⟩, A570, H⟩ := H
                  replace H : ((laws_heldLevelS.f kj42 t267 1).bind fun t268 => (if t268 < 0 then (some false) else (if t268 = t266 then ((laws_toSiphon.f a0_0 a0_1 a0_2 a0_3).bind fun bt269 => ((laws_toLevel.f a1_0 a1_1).bind fun bt273 => ((laws_toIntS.f kj42 l2).bind fun t275 => ((impl_LevelsOf.f kj42 bt269.1 bt269.2.1 bt269.2.2.1 bt269.2.2.2 bt273.1 bt273.2 t275).bind fun bt278 => ((laws_eqLevelS.f kj42 bt278.1 t241).bind fun t282 => (if t282 = true then (laws_FnExactLevelsOf.j2 kj42 t267 t266 (bt278.2 != t244)) else (laws_FnExactLevelsOf.j2 kj42 t267 t266 true))))))) else (some false)))) = some true := H
                  have A57 := Aside0.mk A570
                  clear A570
                  replace H := Option.bind_eq_some_iff.mp H
                  obtain ⟨t268, A580, H⟩ := H
                  replace H : (if t268 < 0 then (some false) else (if t268 = t266 then ((laws_toSiphon.f a0_0 a0_1 a0_2 a0_3).bind fun bt269 => ((laws_toLevel.f a1_0 a1_1).bind fun bt273 => ((laws_toIntS.f kj42 l2).bind fun t275 => ((impl_LevelsOf.f kj42 bt269.1 bt269.2.1 bt269.2.2.1 bt269.2.2.2 bt273.1 bt273.2 t275).bind fun bt278 => ((laws_eqLevelS.f kj42 bt278.1 t241).bind fun t282 => (if t282 = true then (laws_FnExactLevelsOf.j2 kj42 t267 t266 (bt278.2 != t244)) else (laws_FnExactLevelsOf.j2 kj42 t267 t266 true))))))) else (some false))) = some true := H
                  have A58 := Aside0.mk A580
                  clear A580
                  by_cases c59 : t268 < 0
                  · rw [if_pos c59] at H
                    have c59b0 : decide (t268 < 0) = true := decide_eq_true c59
                    clear c59
                    exact absurd H (by simp)
                  · rw [if_neg c59] at H
                    have c59b0 : decide (t268 < 0) = false := decide_eq_false c59
                    clear c59
                    by_cases c60 : t268 = t266
                    · rw [if_pos c60] at H
                      have c60b0 : (t268 == t266) = true := beq_iff_eq.mpr c60
                      have c60b1 : (t268 != t266) = false := bne_eq_false_iff_eq.mpr c60
                      clear c60
                      replace H := Option.bind_eq_some_iff.mp H
                      obtain ⟨⟨t269, t270, t271, t272⟩, A610, H⟩ := H
                      replace H : ((laws_toLevel.f a1_0 a1_1).bind fun bt273 => ((laws_toIntS.f kj42 l2).bind fun t275 => ((impl_LevelsOf.f kj42 t269 t270 t271 t272 bt273.1 bt273.2 t275).bind fun bt278 => ((laws_eqLevelS.f kj42 bt278.1 t241).bind fun t282 => (if t282 = true then (laws_FnExactLevelsOf.j2 kj42 t267 t266 (bt278.2 != t244)) else (laws_FnExactLevelsOf.j2 kj42 t267 t266 true)))))) = some true := H
                      have A61 := Aside0.mk A610
                      clear A610
                      replace H := Option.bind_eq_some_iff.mp H
                      obtain ⟨⟨t273, t274⟩, A620, H⟩ := H
                      replace H : ((laws_toIntS.f kj42 l2).bind fun t275 => ((impl_LevelsOf.f kj42 t269 t270 t271 t272 t273 t274 t275).bind fun bt278 => ((laws_eqLevelS.f kj42 bt278.1 t241).bind fun t282 => (if t282 = true then (laws_FnExactLevelsOf.j2 kj42 t267 t266 (bt278.2 != t244)) else (laws_FnExactLevelsOf.j2 kj42 t267 t266 true))))) = some true := H
                      have A62 := Aside0.mk A620
                      clear A620
                      replace H := Option.bind_eq_some_iff.mp H
                      obtain ⟨t275, A630, H⟩ := H
                      replace H : ((impl_LevelsOf.f kj42 t269 t270 t271 t272 t273 t274 t275).bind fun bt278 => ((laws_eqLevelS.f kj42 bt278.1 t241).bind fun t282 => (if t282 = true then (laws_FnExactLevelsOf.j2 kj42 t267 t266 (bt278.2 != t244)) else (laws_FnExactLevelsOf.j2 kj42 t267 t266 true)))) = some true := H
                      have A63 := Aside0.mk A630
                      clear A630
                      replace H := Option.bind_eq_some_iff.mp H
                      obtain ⟨⟨t278, t281⟩, A640, H⟩ := H
                      replace H : ((laws_eqLevelS.f kj42 t278 t241).bind fun t282 => (if t282 = true then (laws_FnExactLevelsOf.j2 kj42 t267 t266 (t281 != t244)) else (laws_FnExactLevelsOf.j2 kj42 t267 t266 true))) = some true := H
                      have A64 := Aside0.mk A640
                      clear A640
                      have HC65 := Aside0.mk H
                      clear H
                      obtain ⟨Ao66, co66, eo66⟩ := Kd.R_slice HO_10.out
                      subst eo66
                      try go_wp2_with (first | ((with_reducible refine gate_callee (f := 24) rfl ?_); refine goesL_ (some 73) rfl rfl Try.func24 (by kernel_rfl) rfl #[.slice Ao66 t254.length co66, .int .i64 1] rfl (by (try simp only [List.map_toArray, List.map_cons, List.map_nil]); first | done | rfl | (simp only [List.length_drop, List.length_take]; rfl)) ?_; (with_reducible refine (laws_markLevelS.calls kj42 (fun k_ => some k_ = (.slice Ao66 t254.length co66 : Value).ownBlock) (.slice Ao66 t254.length co66) t254 1 t266 t267 w _ ?side1 ?side2 A57.out).mono ?_); (case side1 => repeat (first | (with_reducible first | exact HB.out | apply below_alloc | apply pw_below_drewN | apply below_drew1 | refine below_set ?_ GE230.out | refine below_set ?_ GE231.out) | exact HB.out)); (case side2 => exact Kd.R_tight rfl HO_10.out); rintro e w67 ⟨rfl, hy0, hb, hkp⟩; refine ⟨_, rfl, ?_⟩; have n0_ := Aside0.mk (Kd.R_mono (ok' := fun k_ => some k_ ≠ (.slice Ao66 t254.length co66 : Value).ownBlock) (Kd.R_keptB (HO_7.out) hkp (fun k_ hk_ hs_ => (hk_) hs_)) (fun k_ hk_ => hk_.1)); have n1_ := Aside0.mk (Kd.R_reok rfl hy0 (fun k_ e_ => HO_10.out.1 k_ e_)); have n2_ := Aside0.mk (blk_kept (xb BK230.out) hkp (fun hs_ => (fun e_ => (Kd.R_ne HO_10.out BK230.out (by decide)) e_) hs_)); have n3_ := Aside0.mk (blk_kept (xb BK231.out) hkp (fun hs_ => (fun e_ => (Kd.R_ne HO_10.out BK231.out (by decide)) e_) hs_)); have n4_ := Aside0.mk (hb); clear HO_7; clear HO_10; clear BK230; clear BK231; clear HB; have HO_7 := n0_; have HO_10 := n1_; have BK230 := n2_; have BK231 := n3_; have HB := n4_; clear n0_ n1_ n2_ n3_ n4_; (try clear hb); (try clear hkp); (try clear hy0)) | ((with_reducible refine gate_callee (f := 25) rfl ?_); refine goesL_ (some 76) rfl rfl Try.func25 (by kernel_rfl) rfl #[.slice Ao66 t267.length co66, .int .i64 1] rfl (by (try simp only [List.map_toArray, List.map_cons, List.map_nil]); first | done | (rw [show t267.length = t254.length from (Kd.R_reads' HO_10.out).1.symm] <;> rfl) | rfl | (simp only [List.length_drop, List.length_take]; rfl)) ?_; (with_reducible refine (laws_heldLevelS.calls kj42 _ _ t267 1 t268 _ ?side1 ?side2 A58.out).mono ?_); (case side1 => repeat (first | exact (Kd.R_reads' HO_10.out).2.2 | (with_reducible refine Kd.C_alloc ?_ _) | (with_reducible refine Kd.C_drewN ?_ _) | (with_reducible refine Kd.C_drew ?_))); (case side2 => rw [show t267.length = t254.length from (Kd.R_reads' HO_10.out).1.symm]; exact (Kd.R_reads' HO_10.out).2.1); rintro e w' ⟨rfl, ⟨nd, rfl⟩⟩; refine ⟨_, rfl, ?_⟩))
                      (try (rw [drewN_self w67]; generalize hq_ : World.drewN w67 _ = w67; have n0_ : Aside0 (Kd.R k31 31 w67 w.heap.size (fun k_ => some k_ ≠ (v242 : Value).ownBlock) (.slice Ao66 t254.length co66) t267) := ⟨by rw [← hq_]; exact (xr HO_10.out)⟩; have n1_ : Aside0 (Kd.R k31 31 w67 w.heap.size (fun k_ => some k_ ≠ (.slice Ao66 t254.length co66 : Value).ownBlock) v242 t241) := ⟨by rw [← hq_]; exact (xr HO_7.out)⟩; have n2_ : Aside0 (w67.heap[gb230]? = some (.cells #[.int .i64 a0_0, .int .i64 a0_1, .int .i64 a0_2, .int .i64 a0_3] 23 (0, 0))) := ⟨by rw [← hq_]; exact (xb BK230.out)⟩; have n3_ : Aside0 (w67.heap[gb231]? = some (.cells #[.int .i64 a1_0, .bool a1_1] 25 (0, 0))) := ⟨by rw [← hq_]; exact (xb BK231.out)⟩; have n4_ : Aside0 (Below w.heap.size w w67) := ⟨by rw [← hq_]; exact (xs HB.out)⟩; clear HO_10 HO_7 BK230 BK231 HB hq_; have HO_10 := n0_; have HO_7 := n1_; have BK230 := n2_; have BK231 := n3_; have HB := n4_; clear n0_ n1_ n2_ n3_ n4_))
                      have n0_ := Aside0.mk (Kd.R_drew HO_7.out)
                      have n1_ := Aside0.mk (Kd.R_drew HO_10.out)
                      have n2_ := Aside0.mk (blk_drew BK230.out)
                      have n3_ := Aside0.mk (blk_drew BK231.out)
                      have n4_ := Aside0.mk (below_drew1 HB.out)
                      clear HO_7
                      clear HO_10
                      clear BK230
                      clear BK231
                      clear HB
                      have HO_7 := n0_
                      have HO_10 := n1_
                      have BK230 := n2_
                      have BK231 := n3_
                      have HB := n4_
                      clear n0_ n1_ n2_ n3_ n4_
                      refine start_ (n := 12) (S := fun w' => w'.cell? ⟨gb230, 0, none⟩ = some (.int .i64 a0_0) ∧ w'.cell? ⟨gb230, 1, none⟩ = some (.int .i64 a0_1) ∧ w'.cell? ⟨gb230, 2, none⟩ = some (.int .i64 a0_2) ∧ w'.cell? ⟨gb230, 3, none⟩ = some (.int .i64 a0_3) ∧ w'.cell? ⟨gb231, 0, none⟩ = some (.int .i64 a1_0) ∧ w'.cell? ⟨gb231, 1, none⟩ = some (.bool a1_1)) (ds := []) #[false, false, false, false, false, false, false, false, false, false, false, false] (by kernel_rfl) rfl rfl ⟨(blk_cell BK230.out 0).trans rfl, (blk_cell BK230.out 1).trans rfl, (blk_cell BK230.out 2).trans rfl, (blk_cell BK230.out 3).trans rfl, (blk_cell BK231.out 0).trans rfl, (blk_cell BK231.out 1).trans rfl⟩ (fun hHeld => ?_); refine with_tabW laws_FnExactLevelsOf.tab22 laws_FnExactLevelsOf.bits22 (fun HT_ HW_ => ?_)
                      generalize w67.drew = w68 at HO_7 HO_10 BK230 BK231 HB hHeld ⊢
                      refine pure_ (i := 4) (N := some 87) (v := ?_) (a' := ?_) #[false, false, false, false, true, false, false, false, false, false, false, false] rfl rfl (any_of HT_.out (by kernel_rfl)) (fun _ _ _ h => h) (Or.inl ⟨by rfl, ?_⟩) ?_ ?_
                      rotate_left
                      · intro w'
                        go_simp
                        with_reducible rfl
                      rotate_left
                      · simp only [Act.put, List.setIfInBounds_toArray, List.set_cons_zero, List.set_cons_succ, i64_w, i32_w]
                        rfl
                      refine take_ (i := 0) (N := some 83) (v := ?_) (a' := ?_) #[true, false, false, false, true, false, false, false, false, false, false, false] rfl rfl (take_ofW HT_.out HW_.out (by kernel_rfl)) (fun _ _ _ h => h) (Or.inl ⟨by rfl, ?_⟩) hHeld ?_ ?_
                      rotate_left
                      · rintro w' ⟨s0, s1, s2, s3, s4, s5⟩
                        go_simp
                        with_reducible rfl
                      rotate_left
                      · simp only [Act.put, List.setIfInBounds_toArray, List.set_cons_zero, List.set_cons_succ, i64_w, i32_w]
                        rfl
                      refine take_ (i := 2) (N := some 85) (v := ?_) (a' := ?_) #[true, false, true, false, true, false, false, false, false, false, false, false] rfl rfl (take_ofW HT_.out HW_.out (by kernel_rfl)) (fun _ _ _ h => h) (Or.inl ⟨by rfl, ?_⟩) hHeld ?_ ?_
                      rotate_left
                      · rintro w' ⟨s0, s1, s2, s3, s4, s5⟩
                        go_simp
                        with_reducible rfl
                      rotate_left
                      · simp only [Act.put, List.setIfInBounds_toArray, List.set_cons_zero, List.set_cons_succ, i64_w, i32_w]
                        rfl
                      refine one_ (i := 1) (N := some 84) #[true, true, true, false, true, false, false, false, false, false, false, false] rfl rfl (one_of HT_.out (by kernel_rfl)) (by decide) (fun K hK => ?_)
                      refine goes_ Try.func12 (by kernel_rfl) rfl #[.agg #[.int .i64 a0_0, .int .i64 a0_1, .int .i64 a0_2, .int .i64 a0_3]] (by rfl) rfl rfl (by (try simp only [List.map_toArray, List.map_cons, List.map_nil]); first | done | rfl | (simp only [List.length_drop, List.length_take]; rfl)) ?_
                      with_reducible refine (laws_toSiphon.calls a0_0 a0_1 a0_2 a0_3 t269 t270 t271 t272 _ A61.out).mono ?_
                      rintro e w69 ⟨rfl, hb⟩
                      refine ⟨_, rfl, ?_⟩
                      have n0_ := Aside0.mk (Kd.R_below (xr HO_7.out) hb)
                      have n1_ := Aside0.mk (Kd.R_below (xr HO_10.out) hb)
                      have n2_ := Aside0.mk (blk_below (g := gb230) (o := .cells #[.int .i64 a0_0, .int .i64 a0_1, .int .i64 a0_2, .int .i64 a0_3] 23 (0, 0)) (xb BK230.out) hb)
                      have n3_ := Aside0.mk (blk_below (g := gb231) (o := .cells #[.int .i64 a1_0, .bool a1_1] 25 (0, 0)) (xb BK231.out) hb)
                      have n4_ := Aside0.mk (below_step (xs HB.out) hb)
                      clear HO_7
                      clear HO_10
                      clear BK230
                      clear BK231
                      clear HB
                      have HO_7 := n0_
                      have HO_10 := n1_
                      have BK230 := n2_
                      have BK231 := n3_
                      have HB := n4_
                      clear n0_ n1_ n2_ n3_ n4_
                      (try clear hb)
                      (try clear hb2)
                      (try clear hk)
                      (try clear hi)
                      refine hK.out _ _ ⟨(blk_cell BK230.out 0).trans rfl, (blk_cell BK230.out 1).trans rfl, (blk_cell BK230.out 2).trans rfl, (blk_cell BK230.out 3).trans rfl, (blk_cell BK231.out 0).trans rfl, (blk_cell BK231.out 1).trans rfl⟩ (fun hHeld => ?_)
                      clear hK K
                      refine norm_ (a' := ?_) ?_ ?_
                      rotate_left
                      · show Act.put _ (some 84) _ = _
                        simp only [Act.put, List.setIfInBounds_toArray, List.set_cons_zero, List.set_cons_succ, i64_w, i32_w]
                        rfl
                      refine one_ (i := 3) (N := some 86) #[true, true, true, true, true, false, false, false, false, false, false, false] rfl rfl (one_of HT_.out (by kernel_rfl)) (by decide) (fun K hK => ?_)
                      refine goes_ Try.func13 (by kernel_rfl) rfl #[.agg #[.int .i64 a1_0, .bool a1_1]] (by rfl) rfl rfl (by (try simp only [List.map_toArray, List.map_cons, List.map_nil]); first | done | rfl | (simp only [List.length_drop, List.length_take]; rfl)) ?_
                      with_reducible refine (laws_toLevel.calls a1_0 a1_1 t273 t274 _ A62.out).mono ?_
                      rintro e w70 ⟨rfl, hb⟩
                      refine ⟨_, rfl, ?_⟩
                      have n0_ := Aside0.mk (Kd.R_below (xr HO_7.out) hb)
                      have n1_ := Aside0.mk (Kd.R_below (xr HO_10.out) hb)
                      have n2_ := Aside0.mk (blk_below (g := gb230) (o := .cells #[.int .i64 a0_0, .int .i64 a0_1, .int .i64 a0_2, .int .i64 a0_3] 23 (0, 0)) (xb BK230.out) hb)
                      have n3_ := Aside0.mk (blk_below (g := gb231) (o := .cells #[.int .i64 a1_0, .bool a1_1] 25 (0, 0)) (xb BK231.out) hb)
                      have n4_ := Aside0.mk (below_step (xs HB.out) hb)
                      clear HO_7
                      clear HO_10
                      clear BK230
                      clear BK231
                      clear HB
                      have HO_7 := n0_
                      have HO_10 := n1_
                      have BK230 := n2_
                      have BK231 := n3_
                      have HB := n4_
                      clear n0_ n1_ n2_ n3_ n4_
                      (try clear hb)
                      (try clear hb2)
                      (try clear hk)
                      (try clear hi)
                      refine hK.out _ _ ⟨(blk_cell BK230.out 0).trans rfl, (blk_cell BK230.out 1).trans rfl, (blk_cell BK230.out 2).trans rfl, (blk_cell BK230.out 3).trans rfl, (blk_cell BK231.out 0).trans rfl, (blk_cell BK231.out 1).trans rfl⟩ (fun hHeld => ?_)
                      clear hK K
                      refine norm_ (a' := ?_) ?_ ?_
                      rotate_left
                      · show Act.put _ (some 86) _ = _
                        simp only [Act.put, List.setIfInBounds_toArray, List.set_cons_zero, List.set_cons_succ, i64_w, i32_w]
                        rfl
                      refine one_ (i := 5) (N := some 88) #[true, true, true, true, true, true, false, false, false, false, false, false] rfl rfl (one_of HT_.out (by kernel_rfl)) (by decide) (fun K hK => ?_)
                      refine goes_ Try.func14 (by kernel_rfl) rfl #[.slice A2 l2.length c2] (by rfl) rfl rfl (by (try simp only [List.map_toArray, List.map_cons, List.map_nil]); first | done | rfl | (simp only [List.length_drop, List.length_take]; rfl)) ?_
                      with_reducible refine (laws_toIntS.calls kj42 _ _ l2 t275 _ ?side1 ?side2 A63.out).mono ?_
                      (case side1 => repeat (first | exact (Kd.C_below HR2.out HB.out) | (with_reducible refine Kd.C_alloc ?_ _) | (with_reducible refine Kd.C_drewN ?_ _) | (with_reducible refine Kd.C_drew ?_)))
                      (case side2 => exact HC2.out)
                      rintro e w71 ⟨v276, rfl, ho0, hb⟩
                      refine ⟨_, rfl, ?_⟩
                      have n0_ := Aside0.mk (Kd.R_below (xr HO_7.out) hb)
                      have n1_ := Aside0.mk (Kd.R_below (xr HO_10.out) hb)
                      have n2_ := Aside0.mk (Kd.R_lower ho0 (below_size (xs HB.out)))
                      have n3_ := Aside0.mk (blk_below (g := gb230) (o := .cells #[.int .i64 a0_0, .int .i64 a0_1, .int .i64 a0_2, .int .i64 a0_3] 23 (0, 0)) (xb BK230.out) hb)
                      have n4_ := Aside0.mk (blk_below (g := gb231) (o := .cells #[.int .i64 a1_0, .bool a1_1] 25 (0, 0)) (xb BK231.out) hb)
                      have n5_ := Aside0.mk (below_step (xs HB.out) hb)
                      clear HO_7
                      clear HO_10
                      clear BK230
                      clear BK231
                      clear HB
                      have HO_7 := n0_
                      have HO_10 := n1_
                      have HO277 := n2_
                      have BK230 := n3_
                      have BK231 := n4_
                      have HB := n5_
                      clear n0_ n1_ n2_ n3_ n4_ n5_
                      (try clear hb)
                      (try clear hb2)
                      (try clear hk)
                      (try clear hi)
                      (try clear ho0)
                      obtain ⟨Ao72, co72, eo72⟩ := Kd.R_slice HO277.out
                      (first | subst eo72 | (injection eo72 with f1_ f2_ f3_; have f4_ := f1_.symm; have f5_ := f3_.symm; clear f1_ f2_ f3_; subst f4_; subst f5_))
                      refine hK.out _ _ ⟨(blk_cell BK230.out 0).trans rfl, (blk_cell BK230.out 1).trans rfl, (blk_cell BK230.out 2).trans rfl, (blk_cell BK230.out 3).trans rfl, (blk_cell BK231.out 0).trans rfl, (blk_cell BK231.out 1).trans rfl⟩ (fun hHeld => ?_)
                      clear hK K
                      refine norm_ (a' := ?_) ?_ ?_
                      rotate_left
                      · show Act.put _ (some 88) _ = _
                        simp only [Act.put, List.setIfInBounds_toArray, List.set_cons_zero, List.set_cons_succ, i64_w, i32_w]
                        rfl
                      refine one_ (i := 6) (N := some 89) #[true, true, true, true, true, true, true, false, false, false, false, false] rfl rfl (one_of HT_.out (by kernel_rfl)) (by decide) (fun K hK => ?_)
                      refine goes_ Try.func22 (by kernel_rfl) rfl #[.agg #[.int .i64 t269, .int .i64 t270, .int .i64 t271, .int .i64 t272], .agg #[.int .i64 t273, .bool t274], .slice Ao72 t275.length co72] (by rfl) rfl rfl (by (try simp only [List.map_toArray, List.map_cons, List.map_nil]); first | done | rfl | (simp only [List.length_drop, List.length_take]; rfl)) ?_
                      with_reducible refine (impl_LevelsOf.calls kj42 t269 t270 t271 t272 t273 t274 _ _ t275 t278 t281 _ ?side1 ?side2 A64.out).mono ?_
                      (case side1 => repeat (first | exact (Kd.R_reads' HO277.out).2.2 | (with_reducible refine Kd.C_alloc ?_ _) | (with_reducible refine Kd.C_drewN ?_ _) | (with_reducible refine Kd.C_drew ?_)))
                      (case side2 => exact (Kd.R_reads' HO277.out).2.1)
                      rintro e w73 ⟨v279, rfl, ho0, hb⟩
                      refine ⟨_, rfl, ?_⟩
                      have n0_ := Aside0.mk (Kd.R_elder' (xr HO_7.out) (Kd.R_base ho0) hb)
                      have n1_ := Aside0.mk (Kd.R_elder' (xr HO_10.out) (Kd.R_base ho0) hb)
                      have n2_ := Aside0.mk (Kd.R_below (xr HO277.out) hb)
                      have n3_ := Aside0.mk (Kd.R_lower (Kd.R_new' (Kd.R_new' ho0 (Kd.R_lt (xr HO_7.out))) (Kd.R_lt (xr HO_10.out))) (below_size (xs HB.out)))
                      have n4_ := Aside0.mk (blk_below (g := gb230) (o := .cells #[.int .i64 a0_0, .int .i64 a0_1, .int .i64 a0_2, .int .i64 a0_3] 23 (0, 0)) (xb BK230.out) hb)
                      have n5_ := Aside0.mk (blk_below (g := gb231) (o := .cells #[.int .i64 a1_0, .bool a1_1] 25 (0, 0)) (xb BK231.out) hb)
                      have n6_ := Aside0.mk (below_step (xs HB.out) hb)
                      clear HO_7
                      clear HO_10
                      clear HO277
                      clear BK230
                      clear BK231
                      clear HB
                      have HO_7 := n0_
                      have HO_10 := n1_
                      have HO277 := n2_
                      have HO280 := n3_
                      have BK230 := n4_
                      have BK231 := n5_
                      have HB := n6_
                      clear n0_ n1_ n2_ n3_ n4_ n5_ n6_
                      (try clear hb)
                      (try clear hb2)
                      (try clear hk)
                      (try clear hi)
                      (try clear ho0)
                      refine hK.out _ _ ⟨(blk_cell BK230.out 0).trans rfl, (blk_cell BK230.out 1).trans rfl, (blk_cell BK230.out 2).trans rfl, (blk_cell BK230.out 3).trans rfl, (blk_cell BK231.out 0).trans rfl, (blk_cell BK231.out 1).trans rfl⟩ (fun hHeld => ?_)
                      clear hK K
                      refine norm_ (a' := ?_) ?_ ?_
                      rotate_left
                      · show Act.put _ (some 89) _ = _
                        simp only [Act.put, List.setIfInBounds_toArray, List.set_cons_zero, List.set_cons_succ, i64_w, i32_w]
                        rfl
                      refine pure_ (i := 7) (N := some 82) (v := ?_) (a' := ?_) #[true, true, true, true, true, true, true, true, false, false, false, false] rfl rfl (any_of HT_.out (by kernel_rfl)) (fun _ _ _ h => h) (Or.inl ⟨by rfl, ?_⟩) ?_ ?_
                      rotate_left
                      · intro w'
                        go_simp
                        with_reducible rfl
                      rotate_left
                      · simp only [Act.put, List.setIfInBounds_toArray, List.set_cons_zero, List.set_cons_succ, i64_w, i32_w]
                        rfl
                      refine pure_ (i := 8) (N := some 90) (v := ?_) (a' := ?_) #[true, true, true, true, true, true, true, true, true, false, false, false] rfl rfl (any_of HT_.out (by kernel_rfl)) (fun _ _ _ h => h) (Or.inl ⟨by rfl, ?_⟩) ?_ ?_
                      rotate_left
                      · intro w'
                        go_simp
                        with_reducible rfl
                      rotate_left
                      · simp only [Act.put, List.setIfInBounds_toArray, List.set_cons_zero, List.set_cons_succ, i64_w, i32_w]
                        rfl
                      refine pure_ (i := 9) (N := some 91) (v := ?_) (a' := ?_) #[true, true, true, true, true, true, true, true, true, true, false, false] rfl rfl (any_of HT_.out (by kernel_rfl)) (fun _ _ _ h => h) (Or.inl ⟨by rfl, ?_⟩) ?_ ?_
                      rotate_left
                      · intro w'
                        go_simp
                        with_reducible rfl
                      rotate_left
                      · simp only [Act.put, List.setIfInBounds_toArray, List.set_cons_zero, List.set_cons_succ, i64_w, i32_w]
                        rfl
                      refine pure_ (i := 10) (N := some 15) (v := ?_) (a' := ?_) #[true, true, true, true, true, true, true, true, true, true, true, false] rfl rfl (any_of HT_.out (by kernel_rfl)) (fun _ _ _ h => h) (Or.inl ⟨by rfl, ?_⟩) ?_ ?_
                      rotate_left
                      · intro w'
                        go_simp
                        with_reducible rfl
                      rotate_left
                      · simp only [Act.put, List.setIfInBounds_toArray, List.set_cons_zero, List.set_cons_succ, i64_w, i32_w]
                        rfl
                      refine pure_ (i := 11) (N := some 16) (v := ?_) (a' := ?_) #[true, true, true, true, true, true, true, true, true, true, true, true] rfl rfl (any_of HT_.out (by kernel_rfl)) (fun _ _ _ h => h) (Or.inl ⟨by rfl, ?_⟩) ?_ ?_
                      rotate_left
                      · intro w'
                        go_simp
                        with_reducible rfl
                      rotate_left
                      · simp only [Act.put, List.setIfInBounds_toArray, List.set_cons_zero, List.set_cons_succ, i64_w, i32_w]
                        rfl
                      refine done_ (done_of HT_.out (by kernel_rfl)) ?_
                      go_upto_region 23 with (fail)
                      go_cut [100] (fun v100 wc => ∃ (kq : Nat) (x100_64 : Bool), v100 = .bool x100_64 ∧ Aside0 (laws_FnExactLevelsOf.j2 kq t267 t266 x100_64 = some true) ∧ Aside0 (kq ≤ kj42) ∧ Aside0 (Kd.R k31 31 wc w.heap.size (fun _ => True) (.slice Ao66 t254.length co66) t267) ∧ Aside0 (wc.heap[gb230]? = some (.cells #[.int .i64 a0_0, .int .i64 a0_1, .int .i64 a0_2, .int .i64 a0_3] 23 (0, 0))) ∧ Aside0 (wc.heap[gb231]? = some (.cells #[.int .i64 a1_0, .bool a1_1] 25 (0, 0))) ∧ Aside0 (Below w.heap.size w wc))
                      case first =>
                        have H := HC65.out
                        clear HC65
                        replace H := Option.bind_eq_some_iff.mp H
                        obtain ⟨t282, A740, H⟩ := H
                        replace H : (if t282 = true then (laws_FnExactLevelsOf.j2 kj42 t267 t266 (t281 != t244)) else (laws_FnExactLevelsOf.j2 kj42 t267 t266 true)) = some true := H
                        have A74 := Aside0.mk A740
                        clear A740
                        by_cases c75 : t282 = true
                        · subst c75
                          have H1 : (laws_FnExactLevelsOf.j2 kj42 t267 t266 (t281 != t244)) = some true := by first | (rw [if_pos rfl] at H; exact H) | rfl
                          clear H
                          have H := H1
                          clear H1
                          have H' := Aside0.mk H
                          clear H
                          obtain ⟨Ao76, co76, eo76⟩ := Kd.R_slice HO280.out
                          subst eo76
                          obtain ⟨Ao77, co77, eo77⟩ := Kd.R_slice HO_7.out
                          subst eo77
                          go_wp2_with (first | ((with_reducible refine gate_callee (f := 23) rfl ?_); refine goesL_ (some 94) rfl rfl Try.func23 (by kernel_rfl) rfl #[.slice Ao76 t278.length co76, .slice Ao77 t241.length co77] rfl (by (try simp only [List.map_toArray, List.map_cons, List.map_nil]); first | done | rfl | (simp only [List.length_drop, List.length_take]; rfl)) ?_; (with_reducible refine (laws_eqLevelS.calls kj42 _ _ t278 _ _ t241 true _ ?side1 ?side2 ?side3 ?side4 A74.out).mono ?_); (case side1 => repeat (first | exact (Kd.R_reads' HO280.out).2.2 | (with_reducible refine Kd.C_alloc ?_ _) | (with_reducible refine Kd.C_drewN ?_ _) | (with_reducible refine Kd.C_drew ?_))); (case side2 => exact (Kd.R_reads' HO280.out).2.1); (case side3 => repeat (first | exact (Kd.R_reads' HO_7.out).2.2 | (with_reducible refine Kd.C_alloc ?_ _) | (with_reducible refine Kd.C_drewN ?_ _) | (with_reducible refine Kd.C_drew ?_))); (case side4 => exact (Kd.R_reads' HO_7.out).2.1); rintro e w78 ⟨rfl, hb⟩; refine ⟨_, rfl, ?_⟩; have n0_ := Aside0.mk (Kd.R_below (xr HO_7.out) hb); have n1_ := Aside0.mk (Kd.R_below (xr HO_10.out) hb); have n2_ := Aside0.mk (Kd.R_below (xr HO277.out) hb); have n3_ := Aside0.mk (Kd.R_below (xr HO280.out) hb); have n4_ := Aside0.mk (blk_below (g := gb230) (o := .cells #[.int .i64 a0_0, .int .i64 a0_1, .int .i64 a0_2, .int .i64 a0_3] 23 (0, 0)) (xb BK230.out) hb); have n5_ := Aside0.mk (blk_below (g := gb231) (o := .cells #[.int .i64 a1_0, .bool a1_1] 25 (0, 0)) (xb BK231.out) hb); have n6_ := Aside0.mk (below_step (xs HB.out) hb); clear HO_7; clear HO_10; clear HO277; clear HO280; clear BK230; clear BK231; clear HB; have HO_7 := n0_; have HO_10 := n1_; have HO277 := n2_; have HO280 := n3_; have BK230 := n4_; have BK231 := n5_; have HB := n6_; clear n0_ n1_ n2_ n3_ n4_ n5_ n6_; (try clear hb); (try clear hb2); (try clear hk); (try clear hi)))
                          go_meet
                          case rel => exact ⟨_, ((t281 != t244)), (by first | rfl | (simp; done) | (simp [*]; done)), H', ⟨by have := HJ14.out; have := HJ42.out; first | omega | exact Nat.le_refl _⟩, ⟨by (with_reducible repeat (first | apply Kd.R_alloc | apply Kd.R_drewN | apply Kd.R_drew)); exact Kd.R_mono HO_10.out (fun _ hk => trivial)⟩, ⟨xb BK230.out⟩, ⟨xb BK231.out⟩, ⟨xs HB.out⟩⟩
                        · replace c75 := Bool.eq_false_iff.mpr c75
                          subst c75
                          have H1 : (laws_FnExactLevelsOf.j2 kj42 t267 t266 true) = some true := by first | (rw [if_neg (show ¬ (false = true) by decide)] at H; exact H) | rfl
                          clear H
                          have H := H1
                          clear H1
                          have H' := Aside0.mk H
                          clear H
                          obtain ⟨Ao79, co79, eo79⟩ := Kd.R_slice HO280.out
                          subst eo79
                          obtain ⟨Ao80, co80, eo80⟩ := Kd.R_slice HO_7.out
                          subst eo80
                          go_wp2_with (first | ((with_reducible refine gate_callee (f := 23) rfl ?_); refine goesL_ (some 94) rfl rfl Try.func23 (by kernel_rfl) rfl #[.slice Ao79 t278.length co79, .slice Ao80 t241.length co80] rfl (by (try simp only [List.map_toArray, List.map_cons, List.map_nil]); first | done | rfl | (simp only [List.length_drop, List.length_take]; rfl)) ?_; (with_reducible refine (laws_eqLevelS.calls kj42 _ _ t278 _ _ t241 false _ ?side1 ?side2 ?side3 ?side4 A74.out).mono ?_); (case side1 => repeat (first | exact (Kd.R_reads' HO280.out).2.2 | (with_reducible refine Kd.C_alloc ?_ _) | (with_reducible refine Kd.C_drewN ?_ _) | (with_reducible refine Kd.C_drew ?_))); (case side2 => exact (Kd.R_reads' HO280.out).2.1); (case side3 => repeat (first | exact (Kd.R_reads' HO_7.out).2.2 | (with_reducible refine Kd.C_alloc ?_ _) | (with_reducible refine Kd.C_drewN ?_ _) | (with_reducible refine Kd.C_drew ?_))); (case side4 => exact (Kd.R_reads' HO_7.out).2.1); rintro e w81 ⟨rfl, hb⟩; refine ⟨_, rfl, ?_⟩; have n0_ := Aside0.mk (Kd.R_below (xr HO_7.out) hb); have n1_ := Aside0.mk (Kd.R_below (xr HO_10.out) hb); have n2_ := Aside0.mk (Kd.R_below (xr HO277.out) hb); have n3_ := Aside0.mk (Kd.R_below (xr HO280.out) hb); have n4_ := Aside0.mk (blk_below (g := gb230) (o := .cells #[.int .i64 a0_0, .int .i64 a0_1, .int .i64 a0_2, .int .i64 a0_3] 23 (0, 0)) (xb BK230.out) hb); have n5_ := Aside0.mk (blk_below (g := gb231) (o := .cells #[.int .i64 a1_0, .bool a1_1] 25 (0, 0)) (xb BK231.out) hb); have n6_ := Aside0.mk (below_step (xs HB.out) hb); clear HO_7; clear HO_10; clear HO277; clear HO280; clear BK230; clear BK231; clear HB; have HO_7 := n0_; have HO_10 := n1_; have HO277 := n2_; have HO280 := n3_; have BK230 := n4_; have BK231 := n5_; have HB := n6_; clear n0_ n1_ n2_ n3_ n4_ n5_ n6_; (try clear hb); (try clear hb2); (try clear hk); (try clear hi)))
                          go_meet
                          case rel => exact ⟨_, (true), (by first | rfl | (simp; done) | (simp [*]; done)), H', ⟨by have := HJ14.out; have := HJ42.out; first | omega | exact Nat.le_refl _⟩, ⟨by (with_reducible repeat (first | apply Kd.R_alloc | apply Kd.R_drewN | apply Kd.R_drew)); exact Kd.R_mono HO_10.out (fun _ hk => trivial)⟩, ⟨xb BK230.out⟩, ⟨xb BK231.out⟩, ⟨xs HB.out⟩⟩
                      case rest =>
                        clear HC65
                        try clear c1
                        try clear c2
                        try clear p2
                        try clear c3
                        try clear c4
                        try clear c4b0
                        try clear c4b1
                        try clear c5
                        try clear c6
                        try clear c7
                        try clear c12
                        try clear c13
                        try clear c14
                        try clear c16
                        try clear c19
                        try clear c21
                        try clear c22
                        try clear c23
                        try clear c24
                        try clear c25
                        try clear c31
                        try clear c38
                        try clear c41
                        try clear c47
                        try clear c47b0
                        try clear c49
                        try clear c56
                        try clear c59
                        try clear c59b0
                        try clear c60
                        try clear c60b0
                        try clear c60b1
                        try clear c75
                        try clear p2
                        obtain ⟨kq, x100_64, rfl, HA, HJ64, HO_10, BK230, BK231, HB⟩ := hcut
                        have hl10_64 := (Kd.R_reads' HO_10.out).1
                        rw [hl10_64] at HO_10
                        (try simp only [hl10_64])
                        (try simp only [hl10_64] at BK230)
                        (try simp only [hl10_64] at BK231)
                        cases kq with
                        | zero => exact absurd HA.out (by simp [laws_FnExactLevelsOf.j2])
                        | succ kj64 =>
                          have H := HA.out
                          clear HA
                          simp only [laws_FnExactLevelsOf.j2] at H
                          by_cases c82 : x100_64 = true
                          · subst c82
                            have H1 : (some false) = some true := by first | (rw [if_pos rfl] at H; exact H) | rfl
                            clear H
                            have H := H1
                            clear H1
                            exact absurd H (by simp)
                          · replace c82 := Bool.eq_false_iff.mpr c82
                            subst c82
                            have H1 : ((laws_heldLevelS.f kj64 t267 1).bind fun t283 => (if t283 < 0 then (some false) else (if t283 = t266 then (some true) else (some false)))) = some true := by first | (rw [if_neg (show ¬ (false = true) by decide)] at H; exact H) | rfl
                            clear H
                            have H := H1
                            clear H1
                            replace H := Option.bind_eq_some_iff.mp H
                            obtain ⟨t283, A830, H⟩ := H
                            replace H : (if t283 < 0 then (some false) else (if t283 = t266 then (some true) else (some false))) = some true := H
                            have A83 := Aside0.mk A830
                            clear A830
                            by_cases c84 : t283 < 0
                            · rw [if_pos c84] at H
                              have c84b0 : decide (t283 < 0) = true := decide_eq_true c84
                              clear c84
                              exact absurd H (by simp)
                            · rw [if_neg c84] at H
                              have c84b0 : decide (t283 < 0) = false := decide_eq_false c84
                              clear c84
                              by_cases c85 : t283 = t266
                              · rw [if_pos c85] at H
                                have c85b0 : (t283 == t266) = true := beq_iff_eq.mpr c85
                                have c85b1 : (t283 != t266) = false := bne_eq_false_iff_eq.mpr c85
                                clear c85
                                clear H
                                go_wp2_with (first | ((with_reducible refine gate_callee (f := 25) rfl ?_); refine goesL_ (some 103) rfl rfl Try.func25 (by kernel_rfl) rfl #[.slice Ao66 t267.length co66, .int .i64 1] rfl (by (try simp only [List.map_toArray, List.map_cons, List.map_nil]); first | done | rfl | (simp only [List.length_drop, List.length_take]; rfl)) ?_; (with_reducible refine (laws_heldLevelS.calls kj64 _ _ t267 1 t283 _ ?side1 ?side2 A83.out).mono ?_); (case side1 => repeat (first | exact (Kd.R_reads' HO_10.out).2.2 | (with_reducible refine Kd.C_alloc ?_ _) | (with_reducible refine Kd.C_drewN ?_ _) | (with_reducible refine Kd.C_drew ?_))); (case side2 => exact (Kd.R_reads' HO_10.out).2.1); rintro e w' ⟨rfl, ⟨nd, rfl⟩⟩; refine ⟨_, rfl, ?_⟩))
                                go_ret
                                exact ⟨by first | rfl | (simp [errW_none, errW_some] <;> rfl) | (simp [*, errW_none, errW_some] <;> rfl), by repeat (first | (with_reducible first | exact HB.out | apply below_alloc | apply pw_below_drewN | apply below_drew1 | refine below_set ?_ GE230.out | refine below_set ?_ GE231.out) | exact HB.out)⟩
                              · rw [if_neg c85] at H
                                have c85b0 : (t283 == t266) = false := beq_eq_false_iff_ne.mpr c85
                                have c85b1 : (t283 != t266) = true := bne_iff_ne.mpr c85
                                exact absurd H (by simp)
                    · rw [if_neg c60] at H
                      have c60b0 : (t268 == t266) = false := beq_eq_false_iff_ne.mpr c60
                      have c60b1 : (t268 != t266) = true := bne_iff_ne.mpr c60
                      exact absurd H (by simp)
          · replace c41 := Bool.eq_false_iff.mpr c41
            subst c41
            have H1 : (some false) = some true := by first | (rw [if_neg (show ¬ (false = true) by decide)] at H; exact H) | rfl
            clear H
            have H := H1
            clear H1
            exact absurd H (by simp)

end Go.Proofs.Ytminippcikenfaa.PFnExactLevelsOf

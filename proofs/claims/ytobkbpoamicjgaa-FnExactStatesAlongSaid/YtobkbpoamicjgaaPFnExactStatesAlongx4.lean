/- Lean functions of the Go functions that the law FnExactStatesAlong reaches, and the proofs that the calls come to what they say (made by program). -/
import Derived.Test.YtobkbpoamicjgaaAb
import Derived.Test.YtobkbpoamicjgaaPFnExactStatesAlongx0
import Derived.Test.YtobkbpoamicjgaaPFnExactStatesAlongx3
namespace Go.Proofs.Ytobkbpoamicjgaa.PFnExactStatesAlong
open Go.RowKit Go.Proofs.YtobkbpoamicjgaaW.PrintWords Go.Proofs.YtobkbpoamicjgaaW.PrintLast Go.Proofs.YtobkbpoamicjgaaW.PrintMore Go.Proofs.Ytobkbpoamicjgaa.Ab
attribute [local go_sem] max2_int min2_int max_two min_two max_three min_three max_four min_four   -- for this text's walks alone
set_option linter.unusedVariables false
set_option linter.unusedSimpArgs false

/-! ### spec_veMake: function 76 -/
def spec_veMake.f (l0_0 : List Int) (l0_1 : List Int) (a1_0 : Int) (a1_1 : Int) : Option (List Int × List Int) := (spec_veAmount.f l0_0 l0_1 a1_0 a1_1).bind fun t181 => ((spec_l1Own.f l0_0).bind fun t182 => ((spec_l1Own.f l0_1).bind fun t185 => (if a1_0 ≥ 0 then (if 0 ≤ a1_0 then (if a1_0 < (t185.length : Int) then ((some (t185.set (a1_0 : Int).toNat (wrap64 ((rd t185 a1_0) - t181)) : List Int)).bind fun y190 => (if a1_1 ≥ 0 then (if 0 ≤ a1_1 then (if a1_1 < (t185.length : Int) then (some (t182, (y190.set (a1_1 : Int).toNat (wrap64 ((rd y190 a1_1) + t181))))) else (none)) else (none)) else (some (t182, y190)))) else (none)) else (none)) else (if a1_1 ≥ 0 then (if 0 ≤ a1_1 then (if a1_1 < (t185.length : Int) then (some (t182, (t185.set (a1_1 : Int).toNat (wrap64 ((rd t185 a1_1) + t181))))) else (none)) else (none)) else (some (t182, t185))))))
def spec_veMake.T2 : Bool × List (List Nat × List Nat) := (true, [([], []), ([0], [0]), ([1], [1]), ([], []), ([3], [3]), ([4, 2], [4]), ([2, 5], [2, 5]), ([], []), ([7, 6, 5, 0, 1, 2, 3, 4, 5, 6, 7], [6, 7])])
def spec_veMake.B2 : List Nat := [0, 1, 3, 0, 8, 31, 63, 0, 255]
theorem spec_veMake.tab2 : rtab .any (opsOf Try.f76 2) = spec_veMake.T2 := by kernel_rfl
theorem spec_veMake.bits2 : waitsOk spec_veMake.T2.2 spec_veMake.B2 = true := by kernel_rfl
set_option maxHeartbeats 8000000 in
set_option maxRecDepth 100000 in
theorem spec_veMake.calls (A0_0 : Option Addr) (c0_0 : Nat) (l0_0 : List Int) (A0_1 : Option Addr) (c0_1 : Nat) (l0_1 : List Int) (a1_0 : Int) (a1_1 : Int) (r1 : List Int) (r2 : List Int) (w : World) (hr0_0 : Kd.C (Kd.int .i64) w A0_0 l0_0.length l0_0) (hc0_0 : l0_0.length ≤ c0_0) (hr0_1 : Kd.C (Kd.int .i64) w A0_1 l0_1.length l0_1) (hc0_1 : l0_1.length ≤ c0_1) (h : spec_veMake.f l0_0 l0_1 a1_0 a1_1 = some (r1, r2)) :
  Calls Try.prog 76 #[.agg #[.slice A0_0 l0_0.length c0_0, .slice A0_1 l0_1.length c0_1], .agg #[.int .i64 a1_0, .int .i64 a1_1]] w fun e w' => ∃ v0_ v1_ : Value, e = .returned (.agg #[v0_, v1_]) ∧ Kd.R (Kd.int .i64) 3 w' w.heap.size (fun k_ => nV k_ v1_) v0_ r1 ∧ Kd.R (Kd.int .i64) 3 w' w.heap.size (fun k_ => nV k_ v0_) v1_ r2 ∧ Below w.heap.size w w' := by
 have hu26 := Try.underlying26
 have hu41 := Try.underlying41
 have HR0_0 := Aside0.mk hr0_0
 have HC0_0 := Aside0.mk hc0_0
 clear hr0_0 hc0_0
 have HR0_1 := Aside0.mk hr0_1
 have HC0_1 := Aside0.mk hc0_1
 clear hr0_1 hc0_1
 have HB := Aside0.mk (Below.refl w.heap.size w)
 have H : ((spec_veAmount.f l0_0 l0_1 a1_0 a1_1).bind fun t181 => ((spec_l1Own.f l0_0).bind fun t182 => ((spec_l1Own.f l0_1).bind fun t185 => (if a1_0 ≥ 0 then (if 0 ≤ a1_0 then (if a1_0 < (t185.length : Int) then ((some (t185.set (a1_0 : Int).toNat (wrap64 ((rd t185 a1_0) - t181)) : List Int)).bind fun y190 => (if a1_1 ≥ 0 then (if 0 ≤ a1_1 then (if a1_1 < (t185.length : Int) then (some (t182, (y190.set (a1_1 : Int).toNat (wrap64 ((rd y190 a1_1) + t181))))) else (none)) else (none)) else (some (t182, y190)))) else (none)) else (none)) else (if a1_1 ≥ 0 then (if 0 ≤ a1_1 then (if a1_1 < (t185.length : Int) then (some (t182, (t185.set (a1_1 : Int).toNat (wrap64 ((rd t185 a1_1) + t181))))) else (none)) else (none)) else (some (t182, t185))))))) = some (r1, r2) := h
 clear h
 replace H := Option.bind_eq_some_iff.mp H
 obtain ⟨t181, A30, H⟩ := H
 replace H : ((spec_l1Own.f l0_0).bind fun t182 => ((spec_l1Own.f l0_1).bind fun t185 => (if a1_0 ≥ 0 then (if 0 ≤ a1_0 then (if a1_0 < (t185.length : Int) then ((some (t185.set (a1_0 : Int).toNat (wrap64 ((rd t185 a1_0) - t181)) : List Int)).bind fun y190 => (if a1_1 ≥ 0 then (if 0 ≤ a1_1 then (if a1_1 < (t185.length : Int) then (some (t182, (y190.set (a1_1 : Int).toNat (wrap64 ((rd y190 a1_1) + t181))))) else (none)) else (none)) else (some (t182, y190)))) else (none)) else (none)) else (if a1_1 ≥ 0 then (if 0 ≤ a1_1 then (if a1_1 < (t185.length : Int) then (some (t182, (t185.set (a1_1 : Int).toNat (wrap64 ((rd t185 a1_1) + t181))))) else (none)) else (none)) else (some (t182, t185)))))) = some (r1, r2) := H
 have A3 := Aside0.mk A30
 clear A30
 replace H := Option.bind_eq_some_iff.mp H
 obtain ⟨t182, A40, H⟩ := H
 replace H : ((spec_l1Own.f l0_1).bind fun t185 => (if a1_0 ≥ 0 then (if 0 ≤ a1_0 then (if a1_0 < (t185.length : Int) then ((some (t185.set (a1_0 : Int).toNat (wrap64 ((rd t185 a1_0) - t181)) : List Int)).bind fun y190 => (if a1_1 ≥ 0 then (if 0 ≤ a1_1 then (if a1_1 < (t185.length : Int) then (some (t182, (y190.set (a1_1 : Int).toNat (wrap64 ((rd y190 a1_1) + t181))))) else (none)) else (none)) else (some (t182, y190)))) else (none)) else (none)) else (if a1_1 ≥ 0 then (if 0 ≤ a1_1 then (if a1_1 < (t185.length : Int) then (some (t182, (t185.set (a1_1 : Int).toNat (wrap64 ((rd t185 a1_1) + t181))))) else (none)) else (none)) else (some (t182, t185))))) = some (r1, r2) := H
 have A4 := Aside0.mk A40
 clear A40
 replace H := Option.bind_eq_some_iff.mp H
 obtain ⟨t185, A50, H⟩ := H
 replace H : (if a1_0 ≥ 0 then (if 0 ≤ a1_0 then (if a1_0 < (t185.length : Int) then ((some (t185.set (a1_0 : Int).toNat (wrap64 ((rd t185 a1_0) - t181)) : List Int)).bind fun y190 => (if a1_1 ≥ 0 then (if 0 ≤ a1_1 then (if a1_1 < (t185.length : Int) then (some (t182, (y190.set (a1_1 : Int).toNat (wrap64 ((rd y190 a1_1) + t181))))) else (none)) else (none)) else (some (t182, y190)))) else (none)) else (none)) else (if a1_1 ≥ 0 then (if 0 ≤ a1_1 then (if a1_1 < (t185.length : Int) then (some (t182, (t185.set (a1_1 : Int).toNat (wrap64 ((rd t185 a1_1) + t181))))) else (none)) else (none)) else (some (t182, t185)))) = some (r1, r2) := H
 have A5 := Aside0.mk A50
 clear A50
 by_cases c6 : a1_0 ≥ 0
 ·rw [if_pos c6] at H
  have c6b0 : decide (0 ≤ a1_0) = true := decide_eq_true c6
  clear c6
  by_cases c7 : 0 ≤ a1_0
  ·rw [if_pos c7] at H
   have c7b0 : decide (0 ≤ a1_0) = true := decide_eq_true c7
   clear c7
   by_cases c8 : a1_0 < (t185.length : Int)
   ·rw [if_pos c8] at H
    have c8b0 : decide (a1_0 < (t185.length : Int)) = true := decide_eq_true c8
    clear c8
    obtain ⟨y190, hy190⟩ : ∃ y_ : List Int, y_ = (t185.set (a1_0 : Int).toNat (wrap64 ((rd t185 a1_0) - t181))) := ⟨_, rfl⟩
    replace H : (if a1_1 ≥ 0 then (if 0 ≤ a1_1 then (if a1_1 < (t185.length : Int) then (some (t182, (y190.set (a1_1 : Int).toNat (wrap64 ((rd y190 a1_1) + t181))))) else (none)) else (none)) else (some (t182, y190))) = some (r1, r2) := by first | (rw [hy190]; with_reducible exact H) | (have H2_ := (Option.bind_some _ _).symm.trans H; rw [hy190]; with_reducible exact H2_) | (have H2_ := (Option.bind_some _ _).symm.trans H; with_reducible exact H2_) | with_reducible exact H | (rw [hy190]; exact H) | exact H
    have Ny190 := Aside0.mk hy190
    clear hy190
    by_cases c10 : a1_1 ≥ 0
    ·rw [if_pos c10] at H
     have c10b0 : decide (0 ≤ a1_1) = true := decide_eq_true c10
     clear c10
     by_cases c11 : 0 ≤ a1_1
     ·rw [if_pos c11] at H
      have c11b0 : decide (0 ≤ a1_1) = true := decide_eq_true c11
      clear c11
      by_cases c12 : a1_1 < (t185.length : Int)
      ·rw [if_pos c12] at H
       have c12b0 : decide (a1_1 < (t185.length : Int)) = true := decide_eq_true c12
       clear c12
       obtain ⟨y192, hy192⟩ : ∃ y_ : List Int, y_ = (y190.set (a1_1 : Int).toNat (wrap64 ((rd y190 a1_1) + t181))) := ⟨_, rfl⟩
       replace H : (some (t182, y192)) = some (r1, r2) := by first | (rw [hy192]; with_reducible exact H) | (have H2_ := (Option.bind_some _ _).symm.trans H; rw [hy192]; with_reducible exact H2_) | (have H2_ := (Option.bind_some _ _).symm.trans H; with_reducible exact H2_) | with_reducible exact H | (rw [hy192]; exact H) | exact H
       have Ny192 := Aside0.mk hy192
       clear hy192
       simp only [Option.some.injEq, Prod.mk.injEq] at H
       obtain ⟨rfl, rfl⟩ := H
       go_enter Try.func76, Try.ntmps76
       try go_wp2_with (first | ((with_reducible refine gate_dst (N := 2) rfl ?_); refine box_event ?hg (N := 2) ?hd (cs := #[.slice A0_0 l0_0.length c0_0, .slice A0_1 l0_1.length c0_1]) (t := 26) ?hr ?_; (case hd => rfl); (case hg => rfl); (case hr => first | (go_simp; done) | (go_simp; rfl)); intro gb178 hg w14 hbox hb; have BK178 := Aside0.mk (hbox); have GW178 := xg HB hg; have GE178 := xg HB hg; replace HB := xp HB hb; clear hb hbox hg) | ((with_reducible refine gate_dst (N := 3) rfl ?_); refine box_event ?hg (N := 3) ?hd (cs := #[.int .i64 a1_0, .int .i64 a1_1]) (t := 41) ?hr ?_; (case hd => rfl); (case hg => rfl); (case hr => first | (go_simp; done) | (go_simp; rfl)); intro gb179 hg w15 hbox hb; have BK179 := Aside0.mk (hbox); have GW179 := xg HB hg; have GE179 := xg HB hg; replace HB := xp HB hb; have NB178_179 := xl BK178 hg; have NB179_178 := xh BK178 hg; replace BK178 := xk BK178 hb; clear hb hbox hg) | ((with_reducible refine gate_dst (N := 4) rfl ?_); refine box_event ?hg (N := 4) ?hd (cs := #[.slice none 0 0, .slice none 0 0]) (t := 26) ?hr ?_; (case hd => rfl); (case hg => rfl); (case hr => first | (go_simp; done) | (go_simp; rfl)); intro gb180 hg w16 hbox hb; have BK180 := Aside0.mk (hbox); have GW180 := xg HB hg; have GE180 := xg HB hg; replace HB := xp HB hb; have NB178_180 := xl BK178 hg; have NB180_178 := xh BK178 hg; replace BK178 := xk BK178 hb; have NB179_180 := xl BK179 hg; have NB180_179 := xh BK179 hg; replace BK179 := xk BK179 hb; clear hb hbox hg; have hnb17 := NB178_179.out; have hnc17 := NB179_178.out; have hnb18 := NB178_180.out; have hnc18 := NB180_178.out; have hcz19_0 : w16.cell? ⟨gb178, 0, none⟩ = some (.slice A0_0 l0_0.length c0_0) := (blk_cell BK178.out 0).trans rfl; have hcz19_1 : w16.cell? ⟨gb178, 1, none⟩ = some (.slice A0_1 l0_1.length c0_1) := (blk_cell BK178.out 1).trans rfl; have hfz19_0 := blk_frozen BK178.out 0; have hfz19_1 := blk_frozen BK178.out 1; have hnb20 := NB179_180.out; have hnc20 := NB180_179.out; have hcz21_0 : w16.cell? ⟨gb179, 0, none⟩ = some (.int .i64 a1_0) := (blk_cell BK179.out 0).trans rfl; have hcz21_1 : w16.cell? ⟨gb179, 1, none⟩ = some (.int .i64 a1_1) := (blk_cell BK179.out 1).trans rfl; have hfz21_0 := blk_frozen BK179.out 0; have hfz21_1 := blk_frozen BK179.out 1) | ((with_reducible refine gate_callee (f := 81) rfl ?_); refine goesL_ (some 9) rfl rfl Try.func81 (by kernel_rfl) rfl #[.agg #[.slice A0_0 l0_0.length c0_0, .slice A0_1 l0_1.length c0_1], .agg #[.int .i64 a1_0, .int .i64 a1_1]] rfl (by (try simp only [List.map_toArray, List.map_cons, List.map_nil]); first | done | rfl | (simp only [List.length_drop, List.length_take]; rfl)) ?_; (with_reducible refine (spec_veAmount.calls _ _ l0_0 _ _ l0_1 a1_0 a1_1 t181 _ ?side1 ?side2 ?side3 ?side4 A3.out).mono ?_); (case side1 => exact xd ((Kd.C_below HR0_0.out HB.out))); (case side2 => exact HC0_0.out); (case side3 => exact xd ((Kd.C_below HR0_1.out HB.out))); (case side4 => exact HC0_1.out); rintro e w22 ⟨rfl, hb⟩; refine ⟨_, rfl, ?_⟩; replace BK178 := xk BK178 hb; replace BK179 := xk BK179 hb; replace BK180 := xk BK180 hb; replace HB := xp HB hb; (try clear hb); (try clear hb2); (try clear hk); (try clear hi)))
       replace BK178 := xv BK178
       replace BK179 := xv BK179
       replace BK180 := xv BK180
       replace HB := Aside0.mk (below_drew1 HB.out)
       refine start_ (n := 9) (S := fun w' => w'.cell? ⟨gb178, 0, none⟩ = some (.slice A0_0 l0_0.length c0_0) ∧ w'.cell? ⟨gb178, 1, none⟩ = some (.slice A0_1 l0_1.length c0_1)) (ds := []) #[false, false, false, false, false, false, false, false, false] (by kernel_rfl) rfl rfl ⟨(blk_cell BK178.out 0).trans rfl, (blk_cell BK178.out 1).trans rfl⟩ (fun hHeld => ?_); refine with_tabW spec_veMake.tab2 spec_veMake.bits2 (fun HT_ HW_ => ?_)
       generalize w22.drew = w23 at BK178 BK179 BK180 HB hHeld ⊢
       refine pure_ (i := 0) (N := some 10) (v := ?_) (a' := ?_) #[true, false, false, false, false, false, false, false, false] rfl rfl (any_of HT_.out (by kernel_rfl)) (fun _ _ _ h => h) (Or.inl ⟨by rfl, ?_⟩) ?_ ?_
       rotate_left
       ·intro w'
        go_simp
        with_reducible rfl
       rotate_left
       ·simp only [Act.put, List.setIfInBounds_toArray, List.set_cons_zero, List.set_cons_succ, i64_w, i32_w]
        rfl
       refine pure_ (i := 3) (N := some 13) (v := ?_) (a' := ?_) #[true, false, false, true, false, false, false, false, false] rfl rfl (any_of HT_.out (by kernel_rfl)) (fun _ _ _ h => h) (Or.inl ⟨by rfl, ?_⟩) ?_ ?_
       rotate_left
       ·intro w'
        go_simp
        with_reducible rfl
       rotate_left
       ·simp only [Act.put, List.setIfInBounds_toArray, List.set_cons_zero, List.set_cons_succ, i64_w, i32_w]
        rfl
       refine take_ (i := 1) (N := some 11) (v := ?_) (a' := ?_) #[true, true, false, true, false, false, false, false, false] rfl rfl (take_ofW HT_.out HW_.out (by kernel_rfl)) (fun _ _ _ h => h) (Or.inl ⟨by rfl, ?_⟩) hHeld ?_ ?_
       rotate_left
       ·rintro w' ⟨s0, s1⟩
        go_simp
        with_reducible rfl
       rotate_left
       ·simp only [Act.put, List.setIfInBounds_toArray, List.set_cons_zero, List.set_cons_succ, i64_w, i32_w]
        rfl
       refine take_ (i := 4) (N := some 14) (v := ?_) (a' := ?_) #[true, true, false, true, true, false, false, false, false] rfl rfl (take_ofW HT_.out HW_.out (by kernel_rfl)) (fun _ _ _ h => h) (Or.inl ⟨by rfl, ?_⟩) hHeld ?_ ?_
       rotate_left
       ·rintro w' ⟨s0, s1⟩
        go_simp
        with_reducible rfl
       rotate_left
       ·simp only [Act.put, List.setIfInBounds_toArray, List.set_cons_zero, List.set_cons_succ, i64_w, i32_w]
        rfl
       refine join_ (σ := Value × Value × Nat) 1 #[true, true, true, true, true, true, true, true, false] (fun s_ => [(12, s_.1), (15, s_.2.1), (6, .pointer (some ⟨s_.2.2, 0, none⟩)), (16, .agg #[s_.1, s_.2.1])]) (fun s_ w' => (w'.cell? ⟨gb178, 0, none⟩ = some (.slice A0_0 l0_0.length c0_0) ∧ w'.cell? ⟨gb178, 1, none⟩ = some (.slice A0_1 l0_1.length c0_1)) ∧ (Kd.R (Kd.int .i64) 3 w' w.heap.size (fun k_ => some k_ ≠ (s_.2.1 : Value).ownBlock) s_.1 t182) ∧ (Kd.R (Kd.int .i64) 3 w' w.heap.size (fun k_ => some k_ ≠ (s_.1 : Value).ownBlock) s_.2.1 t185) ∧ (w'.heap[gb178]? = some (.cells #[.slice A0_0 l0_0.length c0_0, .slice A0_1 l0_1.length c0_1] 26 (0, 0))) ∧ (w'.heap[gb179]? = some (.cells #[.int .i64 a1_0, .int .i64 a1_1] 41 (0, 0))) ∧ (w'.heap[gb180]? = some (.cells #[.slice none 0 0, .slice none 0 0] 26 (0, 0))) ∧ (w'.heap[s_.2.2]? = some (.cells #[.slice none 0 0, .slice none 0 0] 26 (0, 0))) ∧ (w.heap.size ≤ s_.2.2) ∧ (w.heap.size ≤ s_.2.2) ∧ (gb178 ≠ s_.2.2) ∧ (s_.2.2 ≠ gb178) ∧ (gb179 ≠ s_.2.2) ∧ (s_.2.2 ≠ gb179) ∧ (gb180 ≠ s_.2.2) ∧ (s_.2.2 ≠ gb180) ∧ (Below w.heap.size w w')) ?_ ?_
       rotate_left
       ·intro hCont
        refine two_ (i := 2) (j := 7) (Ni := some 12) (Nj := some 6) #[true, true, true, true, true, false, false, false, false] #[true, true, false, true, true, false, false, true, false] rfl rfl rfl rfl (two_of HT_.out (by kernel_rfl)) (by decide) (by decide) (fun K hK => ?_) (fun K hK => ?_)
        ·skip
         refine goes_ Try.func62 (by kernel_rfl) rfl #[.slice A0_0 l0_0.length c0_0] (by rfl) rfl rfl (by (try simp only [List.map_toArray, List.map_cons, List.map_nil]); first | done | rfl | (simp only [List.length_drop, List.length_take]; rfl)) ?_
         with_reducible refine (spec_l1Own.calls _ _ l0_0 t182 _ ?side1 ?side2 A4.out).mono ?_
         (case side1 => exact xd ((Kd.C_below HR0_0.out HB.out)))
         (case side2 => exact HC0_0.out)
         rintro e w24 ⟨v183, rfl, ho0, hb⟩
         refine ⟨_, rfl, ?_⟩
         have HO184 := Aside0.mk (Kd.R_lower ho0 (below_size (xs HB.out)))
         replace BK178 := xk BK178 hb
         replace BK179 := xk BK179 hb
         replace BK180 := xk BK180 hb
         replace HB := xp HB hb
         (try clear hb)
         (try clear hb2)
         (try clear hk)
         (try clear hi)
         (try clear ho0)
         refine hK.out _ _ ⟨(blk_cell BK178.out 0).trans rfl, (blk_cell BK178.out 1).trans rfl⟩ (fun hHeld => ?_)
         clear hK K
         refine norm_ (a' := ?_) ?_ ?_
         rotate_left
         ·show Act.put _ (some 12) _ = _
          simp only [Act.put, List.setIfInBounds_toArray, List.set_cons_zero, List.set_cons_succ, i64_w, i32_w]
          rfl
         refine two_ (i := 5) (j := 7) (Ni := some 15) (Nj := some 6) #[true, true, true, true, true, true, false, false, false] #[true, true, true, true, true, false, false, true, false] rfl rfl rfl rfl (two_of HT_.out (by kernel_rfl)) (by decide) (by decide) (fun K hK => ?_) (fun K hK => ?_)
         ·skip
          refine goes_ Try.func62 (by kernel_rfl) rfl #[.slice A0_1 l0_1.length c0_1] (by rfl) rfl rfl (by (try simp only [List.map_toArray, List.map_cons, List.map_nil]); first | done | rfl | (simp only [List.length_drop, List.length_take]; rfl)) ?_
          with_reducible refine (spec_l1Own.calls _ _ l0_1 t185 _ ?side1 ?side2 A5.out).mono ?_
          (case side1 => exact xd ((Kd.C_below HR0_1.out HB.out)))
          (case side2 => exact HC0_1.out)
          rintro e w25 ⟨v186, rfl, ho0, hb⟩
          refine ⟨_, rfl, ?_⟩
          have HO187 := Aside0.mk (Kd.R_lower (Kd.R_new' ho0 (Kd.R_lt (xr HO184.out))) (below_size (xs HB.out)))
          replace HO184 := Aside0.mk (Kd.R_elder' (xr HO184.out) (Kd.R_base ho0) hb)
          replace BK178 := xk BK178 hb
          replace BK179 := xk BK179 hb
          replace BK180 := xk BK180 hb
          replace HB := xp HB hb
          (try clear hb)
          (try clear hb2)
          (try clear hk)
          (try clear hi)
          (try clear ho0)
          obtain ⟨Ao26, co26, eo26⟩ := Kd.R_slice HO187.out
          (first | subst eo26 | (injection eo26 with f1_ f2_ f3_; have f4_ := f1_.symm; have f5_ := f3_.symm; clear f1_ f2_ f3_; subst f4_; subst f5_))
          obtain ⟨Ao27, co27, eo27⟩ := Kd.R_slice HO184.out
          (first | subst eo27 | (injection eo27 with f1_ f2_ f3_; have f4_ := f1_.symm; have f5_ := f3_.symm; clear f1_ f2_ f3_; subst f4_; subst f5_))
          refine hK.out _ _ ⟨(blk_cell BK178.out 0).trans rfl, (blk_cell BK178.out 1).trans rfl⟩ (fun hHeld => ?_)
          clear hK K
          refine norm_ (a' := ?_) ?_ ?_
          rotate_left
          ·show Act.put _ (some 15) _ = _
           simp only [Act.put, List.setIfInBounds_toArray, List.set_cons_zero, List.set_cons_succ, i64_w, i32_w]
           rfl
          refine pure_ (i := 6) (N := some 16) (v := ?_) (a' := ?_) #[true, true, true, true, true, true, true, false, false] rfl rfl (any_of HT_.out (by kernel_rfl)) (fun _ _ _ h => h) (Or.inl ⟨by rfl, ?_⟩) ?_ ?_
          rotate_left
          ·intro w'
           go_simp
           with_reducible rfl
          rotate_left
          ·simp only [Act.put, List.setIfInBounds_toArray, List.set_cons_zero, List.set_cons_succ, i64_w, i32_w]
           rfl
          refine one_ (i := 7) (N := some 6) #[true, true, true, true, true, true, true, true, false] rfl rfl (one_of HT_.out (by kernel_rfl)) (by decide) (fun K hK => ?_)
          refine box_step ?hg (N := 6) ?hd (cs := #[.slice none 0 0, .slice none 0 0]) (t := 26) ?hr ?_; (case hd => rfl); (case hg => rfl); (case hr => first | (go_simp; done) | (go_simp; rfl))
          intro gb188 hg w28 hbox hb
          replace HO184 := xq HO184 hb
          replace HO187 := xq HO187 hb
          have BK188 := Aside0.mk (hbox)
          have GW188 := xg HB hg
          have GE188 := xg HB hg
          replace HB := xp HB hb
          have NB178_188 := xl BK178 hg
          have NB188_178 := xh BK178 hg
          replace BK178 := xk BK178 hb
          have NB179_188 := xl BK179 hg
          have NB188_179 := xh BK179 hg
          replace BK179 := xk BK179 hb
          have NB180_188 := xl BK180 hg
          have NB188_180 := xh BK180 hg
          replace BK180 := xk BK180 hb
          clear hb hbox hg
          refine hK.out _ _ ⟨(blk_cell BK178.out 0).trans rfl, (blk_cell BK178.out 1).trans rfl⟩ (fun hHeld => ?_)
          clear hK K
          refine norm_ (a' := ?_) ?_ ?_
          rotate_left
          ·show Act.put _ (some 6) _ = _
           simp only [Act.put, List.setIfInBounds_toArray, List.set_cons_zero, List.set_cons_succ, i64_w, i32_w]
           rfl
          exact norm_ (by simp only [putAll, Act.put, List.setIfInBounds_toArray, List.set_cons_zero, List.set_cons_succ]) (hCont (.slice Ao27 t182.length co27, .slice Ao26 t185.length co26, gb188) _ ⟨hHeld, (xm HO184 (fun _ hk => hk.2)), (xm HO187 (fun _ hk => hk.2)), (xb BK178.out), (xb BK179.out), (xb BK180.out), (xb BK188.out), GW188.out, GE188.out, NB178_188.out, NB188_178.out, NB179_188.out, NB188_179.out, NB180_188.out, NB188_180.out, (xs HB.out)⟩)
         ·skip
          refine box_step ?hg (N := 6) ?hd (cs := #[.slice none 0 0, .slice none 0 0]) (t := 26) ?hr ?_; (case hd => rfl); (case hg => rfl); (case hr => first | (go_simp; done) | (go_simp; rfl))
          intro gb188 hg w25 hbox hb
          replace HO184 := xq HO184 hb
          have BK188 := Aside0.mk (hbox)
          have GW188 := xg HB hg
          have GE188 := xg HB hg
          replace HB := xp HB hb
          have NB178_188 := xl BK178 hg
          have NB188_178 := xh BK178 hg
          replace BK178 := xk BK178 hb
          have NB179_188 := xl BK179 hg
          have NB188_179 := xh BK179 hg
          replace BK179 := xk BK179 hb
          have NB180_188 := xl BK180 hg
          have NB188_180 := xh BK180 hg
          replace BK180 := xk BK180 hb
          clear hb hbox hg
          refine hK.out _ _ ⟨(blk_cell BK178.out 0).trans rfl, (blk_cell BK178.out 1).trans rfl⟩ (fun hHeld => ?_)
          clear hK K
          refine norm_ (a' := ?_) ?_ ?_
          rotate_left
          ·show Act.put _ (some 6) _ = _
           simp only [Act.put, List.setIfInBounds_toArray, List.set_cons_zero, List.set_cons_succ, i64_w, i32_w]
           rfl
          refine one_ (i := 5) (N := some 15) #[true, true, true, true, true, true, false, true, false] rfl rfl (one_of HT_.out (by kernel_rfl)) (by decide) (fun K hK => ?_)
          refine goes_ Try.func62 (by kernel_rfl) rfl #[.slice A0_1 l0_1.length c0_1] (by rfl) rfl rfl (by (try simp only [List.map_toArray, List.map_cons, List.map_nil]); first | done | rfl | (simp only [List.length_drop, List.length_take]; rfl)) ?_
          with_reducible refine (spec_l1Own.calls _ _ l0_1 t185 _ ?side1 ?side2 A5.out).mono ?_
          (case side1 => exact xd ((Kd.C_below HR0_1.out HB.out)))
          (case side2 => exact HC0_1.out)
          rintro e w26 ⟨v186, rfl, ho0, hb⟩
          refine ⟨_, rfl, ?_⟩
          have HO187 := Aside0.mk (Kd.R_lower (Kd.R_new' ho0 (Kd.R_lt (xr HO184.out))) (below_size (xs HB.out)))
          replace HO184 := Aside0.mk (Kd.R_elder' (xr HO184.out) (Kd.R_base ho0) hb)
          replace BK178 := xk BK178 hb
          replace BK179 := xk BK179 hb
          replace BK180 := xk BK180 hb
          replace BK188 := xk BK188 hb
          replace HB := xp HB hb
          (try clear hb)
          (try clear hb2)
          (try clear hk)
          (try clear hi)
          (try clear ho0)
          obtain ⟨Ao27, co27, eo27⟩ := Kd.R_slice HO187.out
          (first | subst eo27 | (injection eo27 with f1_ f2_ f3_; have f4_ := f1_.symm; have f5_ := f3_.symm; clear f1_ f2_ f3_; subst f4_; subst f5_))
          obtain ⟨Ao28, co28, eo28⟩ := Kd.R_slice HO184.out
          (first | subst eo28 | (injection eo28 with f1_ f2_ f3_; have f4_ := f1_.symm; have f5_ := f3_.symm; clear f1_ f2_ f3_; subst f4_; subst f5_))
          refine hK.out _ _ ⟨(blk_cell BK178.out 0).trans rfl, (blk_cell BK178.out 1).trans rfl⟩ (fun hHeld => ?_)
          clear hK K
          refine norm_ (a' := ?_) ?_ ?_
          rotate_left
          ·show Act.put _ (some 15) _ = _
           simp only [Act.put, List.setIfInBounds_toArray, List.set_cons_zero, List.set_cons_succ, i64_w, i32_w]
           rfl
          refine pure_ (i := 6) (N := some 16) (v := ?_) (a' := ?_) #[true, true, true, true, true, true, true, true, false] rfl rfl (any_of HT_.out (by kernel_rfl)) (fun _ _ _ h => h) (Or.inl ⟨by rfl, ?_⟩) ?_ ?_
          rotate_left
          ·intro w'
           go_simp
           with_reducible rfl
          rotate_left
          ·simp only [Act.put, List.setIfInBounds_toArray, List.set_cons_zero, List.set_cons_succ, i64_w, i32_w]
           rfl
          exact norm_ (by simp only [putAll, Act.put, List.setIfInBounds_toArray, List.set_cons_zero, List.set_cons_succ]) (hCont (.slice Ao28 t182.length co28, .slice Ao27 t185.length co27, gb188) _ ⟨hHeld, (xm HO184 (fun _ hk => hk.2)), (xm HO187 (fun _ hk => hk.2)), (xb BK178.out), (xb BK179.out), (xb BK180.out), (xb BK188.out), GW188.out, GE188.out, NB178_188.out, NB188_178.out, NB179_188.out, NB188_179.out, NB180_188.out, NB188_180.out, (xs HB.out)⟩)
        ·skip
         refine box_step ?hg (N := 6) ?hd (cs := #[.slice none 0 0, .slice none 0 0]) (t := 26) ?hr ?_; (case hd => rfl); (case hg => rfl); (case hr => first | (go_simp; done) | (go_simp; rfl))
         intro gb188 hg w24 hbox hb
         have BK188 := Aside0.mk (hbox)
         have GW188 := xg HB hg
         have GE188 := xg HB hg
         replace HB := xp HB hb
         have NB178_188 := xl BK178 hg
         have NB188_178 := xh BK178 hg
         replace BK178 := xk BK178 hb
         have NB179_188 := xl BK179 hg
         have NB188_179 := xh BK179 hg
         replace BK179 := xk BK179 hb
         have NB180_188 := xl BK180 hg
         have NB188_180 := xh BK180 hg
         replace BK180 := xk BK180 hb
         clear hb hbox hg
         refine hK.out _ _ ⟨(blk_cell BK178.out 0).trans rfl, (blk_cell BK178.out 1).trans rfl⟩ (fun hHeld => ?_)
         clear hK K
         refine norm_ (a' := ?_) ?_ ?_
         rotate_left
         ·show Act.put _ (some 6) _ = _
          simp only [Act.put, List.setIfInBounds_toArray, List.set_cons_zero, List.set_cons_succ, i64_w, i32_w]
          rfl
         refine one_ (i := 2) (N := some 12) #[true, true, true, true, true, false, false, true, false] rfl rfl (one_of HT_.out (by kernel_rfl)) (by decide) (fun K hK => ?_)
         refine goes_ Try.func62 (by kernel_rfl) rfl #[.slice A0_0 l0_0.length c0_0] (by rfl) rfl rfl (by (try simp only [List.map_toArray, List.map_cons, List.map_nil]); first | done | rfl | (simp only [List.length_drop, List.length_take]; rfl)) ?_
         with_reducible refine (spec_l1Own.calls _ _ l0_0 t182 _ ?side1 ?side2 A4.out).mono ?_
         (case side1 => exact xd ((Kd.C_below HR0_0.out HB.out)))
         (case side2 => exact HC0_0.out)
         rintro e w25 ⟨v183, rfl, ho0, hb⟩
         refine ⟨_, rfl, ?_⟩
         have HO184 := Aside0.mk (Kd.R_lower ho0 (below_size (xs HB.out)))
         replace BK178 := xk BK178 hb
         replace BK179 := xk BK179 hb
         replace BK180 := xk BK180 hb
         replace BK188 := xk BK188 hb
         replace HB := xp HB hb
         (try clear hb)
         (try clear hb2)
         (try clear hk)
         (try clear hi)
         (try clear ho0)
         refine hK.out _ _ ⟨(blk_cell BK178.out 0).trans rfl, (blk_cell BK178.out 1).trans rfl⟩ (fun hHeld => ?_)
         clear hK K
         refine norm_ (a' := ?_) ?_ ?_
         rotate_left
         ·show Act.put _ (some 12) _ = _
          simp only [Act.put, List.setIfInBounds_toArray, List.set_cons_zero, List.set_cons_succ, i64_w, i32_w]
          rfl
         refine one_ (i := 5) (N := some 15) #[true, true, true, true, true, true, false, true, false] rfl rfl (one_of HT_.out (by kernel_rfl)) (by decide) (fun K hK => ?_)
         refine goes_ Try.func62 (by kernel_rfl) rfl #[.slice A0_1 l0_1.length c0_1] (by rfl) rfl rfl (by (try simp only [List.map_toArray, List.map_cons, List.map_nil]); first | done | rfl | (simp only [List.length_drop, List.length_take]; rfl)) ?_
         with_reducible refine (spec_l1Own.calls _ _ l0_1 t185 _ ?side1 ?side2 A5.out).mono ?_
         (case side1 => exact xd ((Kd.C_below HR0_1.out HB.out)))
         (case side2 => exact HC0_1.out)
         rintro e w26 ⟨v186, rfl, ho0, hb⟩
         refine ⟨_, rfl, ?_⟩
         have HO187 := Aside0.mk (Kd.R_lower (Kd.R_new' ho0 (Kd.R_lt (xr HO184.out))) (below_size (xs HB.out)))
         replace HO184 := Aside0.mk (Kd.R_elder' (xr HO184.out) (Kd.R_base ho0) hb)
         replace BK178 := xk BK178 hb
         replace BK179 := xk BK179 hb
         replace BK180 := xk BK180 hb
         replace BK188 := xk BK188 hb
         replace HB := xp HB hb
         (try clear hb)
         (try clear hb2)
         (try clear hk)
         (try clear hi)
         (try clear ho0)
         obtain ⟨Ao27, co27, eo27⟩ := Kd.R_slice HO187.out
         (first | subst eo27 | (injection eo27 with f1_ f2_ f3_; have f4_ := f1_.symm; have f5_ := f3_.symm; clear f1_ f2_ f3_; subst f4_; subst f5_))
         obtain ⟨Ao28, co28, eo28⟩ := Kd.R_slice HO184.out
         (first | subst eo28 | (injection eo28 with f1_ f2_ f3_; have f4_ := f1_.symm; have f5_ := f3_.symm; clear f1_ f2_ f3_; subst f4_; subst f5_))
         refine hK.out _ _ ⟨(blk_cell BK178.out 0).trans rfl, (blk_cell BK178.out 1).trans rfl⟩ (fun hHeld => ?_)
         clear hK K
         refine norm_ (a' := ?_) ?_ ?_
         rotate_left
         ·show Act.put _ (some 15) _ = _
          simp only [Act.put, List.setIfInBounds_toArray, List.set_cons_zero, List.set_cons_succ, i64_w, i32_w]
          rfl
         refine pure_ (i := 6) (N := some 16) (v := ?_) (a' := ?_) #[true, true, true, true, true, true, true, true, false] rfl rfl (any_of HT_.out (by kernel_rfl)) (fun _ _ _ h => h) (Or.inl ⟨by rfl, ?_⟩) ?_ ?_
         rotate_left
         ·intro w'
          go_simp
          with_reducible rfl
         rotate_left
         ·simp only [Act.put, List.setIfInBounds_toArray, List.set_cons_zero, List.set_cons_succ, i64_w, i32_w]
          rfl
         exact norm_ (by simp only [putAll, Act.put, List.setIfInBounds_toArray, List.set_cons_zero, List.set_cons_succ]) (hCont (.slice Ao28 t182.length co28, .slice Ao27 t185.length co27, gb188) _ ⟨hHeld, (xm HO184 (fun _ hk => hk.2)), (xm HO187 (fun _ hk => hk.2)), (xb BK178.out), (xb BK179.out), (xb BK180.out), (xb BK188.out), GW188.out, GE188.out, NB178_188.out, NB188_178.out, NB179_188.out, NB188_179.out, NB180_188.out, NB188_180.out, (xs HB.out)⟩)
       rintro ⟨v183, v186, gb188⟩ w29 ⟨hS_, h0_, h1_, h2_, h3_, h4_, h5_, h6_, h7_, h8_, h9_, h10_, h11_, h12_, h13_, h14_⟩
       have n0_ : Aside0 (Kd.R (Kd.int .i64) 3 w29 w.heap.size (fun k_ => nV k_ v186) v183 t182) := ⟨h0_⟩
       have n1_ : Aside0 (Kd.R (Kd.int .i64) 3 w29 w.heap.size (fun k_ => nV k_ v183) v186 t185) := ⟨h1_⟩
       have n2_ : Aside0 (w29.heap[gb178]? = some (.cells #[.slice A0_0 l0_0.length c0_0, .slice A0_1 l0_1.length c0_1] 26 (0, 0))) := ⟨h2_⟩
       have n3_ : Aside0 (w29.heap[gb179]? = some (.cells #[.int .i64 a1_0, .int .i64 a1_1] 41 (0, 0))) := ⟨h3_⟩
       have n4_ : Aside0 (w29.heap[gb180]? = some (.cells #[.slice none 0 0, .slice none 0 0] 26 (0, 0))) := ⟨h4_⟩
       have n5_ : Aside0 (w29.heap[gb188]? = some (.cells #[.slice none 0 0, .slice none 0 0] 26 (0, 0))) := ⟨h5_⟩
       have n6_ : Aside0 (w.heap.size ≤ gb188) := ⟨h6_⟩
       have n7_ : Aside0 (w.heap.size ≤ gb188) := ⟨h7_⟩
       have n8_ : Aside0 (gb178 ≠ gb188) := ⟨h8_⟩
       have n9_ : Aside0 (gb188 ≠ gb178) := ⟨h9_⟩
       have n10_ : Aside0 (gb179 ≠ gb188) := ⟨h10_⟩
       have n11_ : Aside0 (gb188 ≠ gb179) := ⟨h11_⟩
       have n12_ : Aside0 (gb180 ≠ gb188) := ⟨h12_⟩
       have n13_ : Aside0 (gb188 ≠ gb180) := ⟨h13_⟩
       have n14_ : Aside0 (Below w.heap.size w w29) := ⟨h14_⟩
       clear BK178
       clear BK179
       clear BK180
       clear HB
       clear h0_ h1_ h2_ h3_ h4_ h5_ h6_ h7_ h8_ h9_ h10_ h11_ h12_ h13_ h14_
       have HO184 := n0_
       have HO187 := n1_
       have BK178 := n2_
       have BK179 := n3_
       have BK180 := n4_
       have BK188 := n5_
       have GW188 := n6_
       have GE188 := n7_
       have NB178_188 := n8_
       have NB188_178 := n9_
       have NB179_188 := n10_
       have NB188_179 := n11_
       have NB180_188 := n12_
       have NB188_180 := n13_
       have HB := n14_
       clear n0_ n1_ n2_ n3_ n4_ n5_ n6_ n7_ n8_ n9_ n10_ n11_ n12_ n13_ n14_
       have hHeld : w29.cell? ⟨gb178, 0, none⟩ = some (.slice A0_0 l0_0.length c0_0) ∧ w29.cell? ⟨gb178, 1, none⟩ = some (.slice A0_1 l0_1.length c0_1) := hS_
       obtain ⟨Ao30, co30, eo30⟩ := Kd.R_slice HO187.out
       (first | subst eo30 | (injection eo30 with f1_ f2_ f3_; have f4_ := f1_.symm; have f5_ := f3_.symm; clear f1_ f2_ f3_; subst f4_; subst f5_))
       obtain ⟨Ao31, co31, eo31⟩ := Kd.R_slice HO184.out
       (first | subst eo31 | (injection eo31 with f1_ f2_ f3_; have f4_ := f1_.symm; have f5_ := f3_.symm; clear f1_ f2_ f3_; subst f4_; subst f5_))
       refine norm_ (a' := ?_) ?_ ?_
       rotate_left
       ·simp only [putAll, Act.put, List.setIfInBounds_toArray, List.set_cons_zero, List.set_cons_succ]
        rfl
       refine one_ (i := 8) (N := none) #[true, true, true, true, true, true, true, true, true] rfl rfl (one_of HT_.out (by kernel_rfl)) (by decide) (fun K hK => ?_)
       have hs32 : w29.cell? ⟨gb188, 0, none⟩ = some (.slice none 0 0) := (blk_cell BK188.out 0).trans rfl
       have hfs32 := blk_frozen BK188.out 0
       have hns32_0 := NB178_188.out
       have hns32_1 := NB179_188.out
       have hns32_2 := NB180_188.out
       have hms32_0 := NB188_178.out
       have hms32_1 := NB188_179.out
       have hms32_2 := NB188_180.out
       have hs33 : w29.cell? ⟨gb188, 1, none⟩ = some (.slice none 0 0) := (blk_cell BK188.out 1).trans rfl
       have hfs33 := blk_frozen BK188.out 1
       have hns33_0 := NB178_188.out
       have hns33_1 := NB179_188.out
       have hns33_2 := NB180_188.out
       have hms33_0 := NB188_178.out
       have hms33_1 := NB188_179.out
       have hms33_2 := NB188_180.out
       refine skip_ (w1 := ?_) (by rfl) rfl ?_ ?_
       rotate_left
       ·go_simp
        rfl
       refine hK.out _ _ ⟨((cell_far (p := ⟨gb188, _, none⟩) NB178_188.out _).trans (((cell_far (p := ⟨gb188, _, none⟩) NB178_188.out _).trans (hHeld.1)))), ((cell_far (p := ⟨gb188, _, none⟩) NB178_188.out _).trans (((cell_far (p := ⟨gb188, _, none⟩) NB178_188.out _).trans (hHeld.2))))⟩ (fun hHeld => ?_)
       clear hK K
       refine done_ (done_of HT_.out (by kernel_rfl)) ?_
       have n0_ : Aside0 (Kd.R (Kd.int .i64) 3 ((w29.setCell ⟨gb188, 0, none⟩ (.slice Ao31 t182.length co31)).setCell ⟨gb188, 1, none⟩ (.slice Ao30 t185.length co30)) w.heap.size (fun k_ => nS k_ Ao30 t185.length co30) (.slice Ao31 t182.length co31) t182) := ⟨by (with_reducible repeat (first | apply Kd.R_alloc | apply Kd.R_drewN | apply Kd.R_drew)); exact Kd.R_mono (Kd.R_far (p := ⟨gb188, 1, none⟩) (Kd.R_far (p := ⟨gb188, 0, none⟩) (Kd.R_types HO184.out BK188.out (by decide)) (fun _ hk => hk.2) (.slice Ao31 t182.length co31)) (fun _ hk => hk.2) (.slice Ao30 t185.length co30)) (fun _ hk => hk.1)⟩
       have n1_ : Aside0 (Kd.R (Kd.int .i64) 3 ((w29.setCell ⟨gb188, 0, none⟩ (.slice Ao31 t182.length co31)).setCell ⟨gb188, 1, none⟩ (.slice Ao30 t185.length co30)) w.heap.size (fun k_ => nS k_ Ao31 t182.length co31) (.slice Ao30 t185.length co30) t185) := ⟨by (with_reducible repeat (first | apply Kd.R_alloc | apply Kd.R_drewN | apply Kd.R_drew)); exact Kd.R_mono (Kd.R_far (p := ⟨gb188, 1, none⟩) (Kd.R_far (p := ⟨gb188, 0, none⟩) (Kd.R_types HO187.out BK188.out (by decide)) (fun _ hk => hk.2) (.slice Ao31 t182.length co31)) (fun _ hk => hk.2) (.slice Ao30 t185.length co30)) (fun _ hk => hk.1)⟩
       have n2_ : Aside0 (((w29.setCell ⟨gb188, 0, none⟩ (.slice Ao31 t182.length co31)).setCell ⟨gb188, 1, none⟩ (.slice Ao30 t185.length co30)).heap[gb178]? = some (.cells #[.slice A0_0 l0_0.length c0_0, .slice A0_1 l0_1.length c0_1] 26 (0, 0))) := ⟨xff NB178_188.out NB178_188.out BK178.out⟩
       have n3_ : Aside0 (((w29.setCell ⟨gb188, 0, none⟩ (.slice Ao31 t182.length co31)).setCell ⟨gb188, 1, none⟩ (.slice Ao30 t185.length co30)).heap[gb179]? = some (.cells #[.int .i64 a1_0, .int .i64 a1_1] 41 (0, 0))) := ⟨xff NB179_188.out NB179_188.out BK179.out⟩
       have n4_ : Aside0 (((w29.setCell ⟨gb188, 0, none⟩ (.slice Ao31 t182.length co31)).setCell ⟨gb188, 1, none⟩ (.slice Ao30 t185.length co30)).heap[gb180]? = some (.cells #[.slice none 0 0, .slice none 0 0] 26 (0, 0))) := ⟨xff NB180_188.out NB180_188.out BK180.out⟩
       have n5_ : Aside0 (((w29.setCell ⟨gb188, 0, none⟩ (.slice Ao31 t182.length co31)).setCell ⟨gb188, 1, none⟩ (.slice Ao30 t185.length co30)).heap[gb188]? = some (.cells #[.slice Ao31 t182.length co31, .slice Ao30 t185.length co30] 26 (0, 0))) := ⟨by (with_reducible repeat (first | refine blk_drewN ?_ _ | refine blk_drew ?_ | refine blk_alloc ?_ _)); refine blk_put (cs := #[.slice Ao31 t182.length co31, .slice none 0 0]) ?_ 1 _ rfl; (with_reducible repeat (first | refine blk_drewN ?_ _ | refine blk_drew ?_ | refine blk_alloc ?_ _)); refine blk_put (cs := #[.slice none 0 0, .slice none 0 0]) ?_ 0 _ rfl; (with_reducible repeat (first | refine blk_drewN ?_ _ | refine blk_drew ?_ | refine blk_alloc ?_ _)); exact BK188.out⟩
       have n6_ : Aside0 (Below w.heap.size w ((w29.setCell ⟨gb188, 0, none⟩ (.slice Ao31 t182.length co31)).setCell ⟨gb188, 1, none⟩ (.slice Ao30 t185.length co30))) := ⟨xs HB.out⟩
       (try clear HO184)
       (try clear HO187)
       (try clear BK178)
       (try clear BK179)
       (try clear BK180)
       (try clear BK188)
       (try clear HB)
       generalize ((w29.setCell ⟨gb188, 0, none⟩ (.slice Ao31 t182.length co31)).setCell ⟨gb188, 1, none⟩ (.slice Ao30 t185.length co30)) = w34 at n0_ n1_ n2_ n3_ n4_ n5_ n6_ ⊢
       have HO184 := n0_
       have HO187 := n1_
       have BK178 := n2_
       have BK179 := n3_
       have BK180 := n4_
       have BK188 := n5_
       have HB := n6_
       clear n0_ n1_ n2_ n3_ n4_ n5_ n6_
       have hnb35 := NB179_188.out
       have hnc35 := NB188_179.out
       have hcz36_0 : w34.cell? ⟨gb179, 0, none⟩ = some (.int .i64 a1_0) := (blk_cell BK179.out 0).trans rfl
       have hcz36_1 : w34.cell? ⟨gb179, 1, none⟩ = some (.int .i64 a1_1) := (blk_cell BK179.out 1).trans rfl
       have hfz36_0 := blk_frozen BK179.out 0
       have hfz36_1 := blk_frozen BK179.out 1
       have hnb37 := NB188_178.out
       have hnc37 := NB178_188.out
       have hnb38 := NB188_180.out
       have hnc38 := NB180_188.out
       have hcz39_0 : w34.cell? ⟨gb188, 0, none⟩ = some (.slice Ao31 t182.length co31) := (blk_cell BK188.out 0).trans rfl
       have hcz39_1 : w34.cell? ⟨gb188, 1, none⟩ = some (.slice Ao30 t185.length co30) := (blk_cell BK188.out 1).trans rfl
       have hfz39_0 := blk_frozen BK188.out 0
       have hfz39_1 := blk_frozen BK188.out 1
       have p189 : 0 ≤ (a1_0 : Int) := of_decide_eq_true (by first | (with_reducible assumption) | assumption)
       have q189 : a1_0 < (t185.length : Int) := of_decide_eq_true (by first | (with_reducible assumption) | assumption)
       obtain ⟨ad189, e189, hx189_0⟩ := Kd.at_int (Kd.R_reads' HO187.out).2.2 a1_0 p189 q189
       cases e189
       replace p189 := eq_true p189
       replace q189 := eq_true q189
       have p9 : 0 ≤ (a1_0 : Int) := of_decide_eq_true (by first | (with_reducible assumption) | assumption)
       have q9 : (a1_0 : Int) < ((t185.length : Int) : Int) := of_decide_eq_true (by first | (with_reducible assumption) | assumption)
       obtain ⟨go9, co9, eo9, gb9, gl9, cl9, HG9⟩ := Kd.R_form HO187.out (by omega)
       (first | cases eo9 | (injection eo9 with ea_ en_ ec_; (first | subst ea_ | (injection ea_ with ea_; subst ea_)); subst ec_; clear en_))
       have GB9 := Aside0.mk gb9
       have GG9 := Aside0.mk HG9
       clear gb9 gl9 HG9
       (first | simp only [add_plain] at hx189_0 | skip)
       obtain ⟨hx9_0, hf9_0⟩ := Kd.R_celln 0 HO187.out (a1_0 : Int) p9 q9
       replace p9 := eq_true p9
       replace q9 := eq_true q9
       obtain ⟨hy40_, hz40_⟩ := Kd.R_celln 0 HO187.out (a1_0 : Int) (of_decide_eq_true (by first | (with_reducible assumption) | assumption)) (of_decide_eq_true (by first | (with_reducible assumption) | assumption))
       have HP40 := Kd.R_putg HO187.out (a1_0 : Int) (wrap64 ((rd t185 a1_0) - t181))
       try go_wp2_with (first | ((with_reducible refine gate_store (t := 3) (p := 28) rfl ?_); refine store_event (t := 3) (p := 28) (v := ?vo_w41) (w1 := (w34.setCell ⟨go9, (a1_0 : Int).toNat, none⟩ (.int .i64 (wrap64 ((rd t185 a1_0) - t181))))) ?hg ?ho ?hn ?hr ?_; (case ho => rfl); (case hg => rfl); (case hn => rfl); (case hr => first | (go_simp; done) | (go_simp; rfl)); intro w41 hw; have hg : w34.grownBy w41 (some go9) := (by rw [hw]; exact HP40.2); have hp_ : Kd.R (Kd.int .i64) 3 w41 w.heap.size (fun k_ => nS k_ Ao31 t182.length co31) (.slice (some ⟨go9, 0, none⟩) t185.length co30) y190 := (by rw [hw, Ny190.out]; exact HP40.1); clear HP40; replace BK178 := Aside0.mk (blk_grown (g := gb178) (o := .cells #[.slice A0_0 l0_0.length c0_0, .slice A0_1 l0_1.length c0_1] 26 (0, 0)) (xb BK178.out) hg (Kd.R_ne HO187.out BK178.out (by decide))); replace BK179 := Aside0.mk (blk_grown (g := gb179) (o := .cells #[.int .i64 a1_0, .int .i64 a1_1] 41 (0, 0)) (xb BK179.out) hg (Kd.R_ne HO187.out BK179.out (by decide))); replace BK180 := Aside0.mk (blk_grown (g := gb180) (o := .cells #[.slice none 0 0, .slice none 0 0] 26 (0, 0)) (xb BK180.out) hg (Kd.R_ne HO187.out BK180.out (by decide))); replace HO184 := Aside0.mk (Kd.R_after (v := (.slice (some ⟨go9, 0, none⟩) t185.length co30)) (v1 := (.slice (some ⟨go9, 0, none⟩) t185.length co30)) (ok := (fun _ => True)) (xm HO184 (fun _ hk => ⟨trivial, hk⟩)) hg (.inl rfl)); replace BK188 := Aside0.mk (blk_grown (g := gb188) (o := .cells #[.slice Ao31 t182.length co31, .slice (some ⟨go9, 0, none⟩) t185.length co30] 26 (0, 0)) (xb BK188.out) hg (Kd.R_ne HO187.out BK188.out (by decide))); replace HO187 := Aside0.mk (hp_); replace HB := Aside0.mk ((by rw [hw]; exact below_set (HB.out) GB9.out : Below w.heap.size w w41)); clear hg hw hp_; have hcz42_0 : w41.cell? ⟨gb179, 0, none⟩ = some (.int .i64 a1_0) := (blk_cell BK179.out 0).trans rfl; have hcz42_1 : w41.cell? ⟨gb179, 1, none⟩ = some (.int .i64 a1_1) := (blk_cell BK179.out 1).trans rfl; have hfz42_0 := blk_frozen BK179.out 0; have hfz42_1 := blk_frozen BK179.out 1; have hcz43_0 : w41.cell? ⟨gb188, 0, none⟩ = some (.slice Ao31 t182.length co31) := (blk_cell BK188.out 0).trans rfl; have hcz43_1 : w41.cell? ⟨gb188, 1, none⟩ = some (.slice (some ⟨go9, 0, none⟩) t185.length co30) := (blk_cell BK188.out 1).trans rfl; have hfz43_0 := blk_frozen BK188.out 0; have hfz43_1 := blk_frozen BK188.out 1; have p191 : 0 ≤ (a1_1 : Int) := of_decide_eq_true (by first | (with_reducible assumption) | assumption); have q191 : a1_1 < (y190.length : Int) := (by have h_ : (a1_1 : Int) < ((t185.length : Int) : Int) := of_decide_eq_true (by first | (with_reducible assumption) | assumption); first | (have e_ := (Kd.R_reads' HO187.out).1; omega) | simpa only [Ny190.out, List.length_set] using h_); have ql191 : ((a1_1 : Int) < ((t185.length : Int) : Int)) = True := eq_true (of_decide_eq_true (by first | (with_reducible assumption) | assumption)); obtain ⟨ad191, e191, hx191_0⟩ := Kd.at_int (Kd.R_reads' HO187.out).2.2 a1_1 p191 q191; obtain rfl : (⟨go9, 0, none⟩ : Addr) = ad191 := (by injection e191); (first | simp only [add_plain] at hx191_0 | simp only [add_at] at hx191_0 | simp only [Addr.add, Nat.zero_add] at hx191_0 | skip); replace p191 := eq_true p191; replace q191 := eq_true q191; have p13 : 0 ≤ (a1_1 : Int) := of_decide_eq_true (by first | (with_reducible assumption) | assumption); have q13 : (a1_1 : Int) < ((t185.length : Int) : Int) := of_decide_eq_true (by first | (with_reducible assumption) | assumption); obtain ⟨hx13_0, hf13_0⟩ := Kd.R_celln 0 HO187.out (a1_1 : Int) p13 q13; replace p13 := eq_true p13; replace q13 := eq_true q13; obtain ⟨hy44_, hz44_⟩ := Kd.R_celln 0 HO187.out (a1_1 : Int) (of_decide_eq_true (by first | (with_reducible assumption) | assumption)) (of_decide_eq_true (by first | (with_reducible assumption) | assumption)); have HP44 := Kd.R_putg HO187.out (a1_1 : Int) (wrap64 ((rd y190 a1_1) + t181))) | ((with_reducible refine gate_store (t := 3) (p := 40) rfl ?_); refine store_event (t := 3) (p := 40) (v := ?vo_w45) (w1 := (w41.setCell ⟨go9, (a1_1 : Int).toNat, none⟩ (.int .i64 (wrap64 ((rd y190 a1_1) + t181))))) ?hg ?ho ?hn ?hr ?_; (case ho => rfl); (case hg => rfl); (case hn => rfl); (case hr => first | (go_simp; done) | (go_simp; rfl)); intro w45 hw; have hg : w41.grownBy w45 (some go9) := (by rw [hw]; exact HP44.2); have hp_ : Kd.R (Kd.int .i64) 3 w45 w.heap.size (fun k_ => nS k_ Ao31 t182.length co31) (.slice (some ⟨go9, 0, none⟩) t185.length co30) y192 := (by rw [hw, Ny192.out]; exact HP44.1); clear HP44; replace BK178 := Aside0.mk (blk_grown (g := gb178) (o := .cells #[.slice A0_0 l0_0.length c0_0, .slice A0_1 l0_1.length c0_1] 26 (0, 0)) (xb BK178.out) hg (Kd.R_ne HO187.out BK178.out (by decide))); replace BK179 := Aside0.mk (blk_grown (g := gb179) (o := .cells #[.int .i64 a1_0, .int .i64 a1_1] 41 (0, 0)) (xb BK179.out) hg (Kd.R_ne HO187.out BK179.out (by decide))); replace BK180 := Aside0.mk (blk_grown (g := gb180) (o := .cells #[.slice none 0 0, .slice none 0 0] 26 (0, 0)) (xb BK180.out) hg (Kd.R_ne HO187.out BK180.out (by decide))); replace HO184 := Aside0.mk (Kd.R_after (v := (.slice (some ⟨go9, 0, none⟩) t185.length co30)) (v1 := (.slice (some ⟨go9, 0, none⟩) t185.length co30)) (ok := (fun _ => True)) (xr HO184.out) hg (.inl rfl)); replace BK188 := Aside0.mk (blk_grown (g := gb188) (o := .cells #[.slice Ao31 t182.length co31, .slice (some ⟨go9, 0, none⟩) t185.length co30] 26 (0, 0)) (xb BK188.out) hg (Kd.R_ne HO187.out BK188.out (by decide))); replace HO187 := Aside0.mk (hp_); replace HB := Aside0.mk ((by rw [hw]; exact below_set (HB.out) GB9.out : Below w.heap.size w w45)); clear hg hw hp_; have hcz46_0 : w45.cell? ⟨gb188, 0, none⟩ = some (.slice Ao31 t182.length co31) := (blk_cell BK188.out 0).trans rfl; have hcz46_1 : w45.cell? ⟨gb188, 1, none⟩ = some (.slice (some ⟨go9, 0, none⟩) t185.length co30) := (blk_cell BK188.out 1).trans rfl; have hfz46_0 := blk_frozen BK188.out 0; have hfz46_1 := blk_frozen BK188.out 1; have hcz47_0 : w45.cell? ⟨gb180, 0, none⟩ = some (.slice none 0 0) := (blk_cell BK180.out 0).trans rfl; have hcz47_1 : w45.cell? ⟨gb180, 1, none⟩ = some (.slice none 0 0) := (blk_cell BK180.out 1).trans rfl; have hfz47_0 := blk_frozen BK180.out 0; have hfz47_1 := blk_frozen BK180.out 1))
       refine bodyPost_ret (results_cell_row rfl _ _ gb180 26 #[.slice Ao31 t182.length co31, .slice (some ⟨go9, 0, none⟩) t185.length co30] (0, 0) _ rfl (by (with_reducible repeat (first | refine blk_drewN ?_ _ | refine blk_drew ?_ | refine blk_alloc ?_ _)); refine blk_put (cs := #[.slice Ao31 t182.length co31, .slice none 0 0]) ?_ 1 _ rfl; (with_reducible repeat (first | refine blk_drewN ?_ _ | refine blk_drew ?_ | refine blk_alloc ?_ _)); refine blk_put (cs := #[.slice none 0 0, .slice none 0 0]) ?_ 0 _ rfl; (with_reducible repeat (first | refine blk_drewN ?_ _ | refine blk_drew ?_ | refine blk_alloc ?_ _)); exact BK180.out) Try.underlying26 rfl (by kernel_rfl)) rfl ?_
       exact ⟨_, _, by first | rfl | (simp [errW_none, errW_some] <;> rfl) | (simp [*, errW_none, errW_some] <;> rfl), by (with_reducible repeat (first | apply Kd.R_alloc | apply Kd.R_drewN | apply Kd.R_drew)); exact Kd.R_mono (Kd.R_far (p := ⟨gb180, 1, none⟩) (Kd.R_far (p := ⟨gb180, 0, none⟩) (Kd.R_types HO184.out BK180.out (by decide)) (fun _ hk => hk.2) (.slice Ao31 t182.length co31)) (fun _ hk => hk.2) (.slice (some ⟨go9, 0, none⟩) t185.length co30)) (fun _ hk => hk.1.2), by (with_reducible repeat (first | apply Kd.R_alloc | apply Kd.R_drewN | apply Kd.R_drew)); exact Kd.R_mono (Kd.R_far (p := ⟨gb180, 1, none⟩) (Kd.R_far (p := ⟨gb180, 0, none⟩) (Kd.R_types HO187.out BK180.out (by decide)) (fun _ hk => hk.2) (.slice Ao31 t182.length co31)) (fun _ hk => hk.2) (.slice (some ⟨go9, 0, none⟩) t185.length co30)) (fun _ hk => hk.1), by repeat (first | (with_reducible first | exact HB.out | apply below_alloc | apply pw_below_drewN | apply below_drew1 | refine below_set ?_ GE178.out | refine below_set ?_ GE179.out | refine below_set ?_ GE180.out | refine below_set ?_ GE188.out) | exact HB.out)⟩
      ·rw [if_neg c12] at H
       exact absurd H (by simp)
     ·rw [if_neg c11] at H
      exact absurd H (by simp)
    ·rw [if_neg c10] at H
     have c10b0 : decide (0 ≤ a1_1) = false := decide_eq_false c10
     clear c10
     simp only [Option.some.injEq, Prod.mk.injEq] at H
     obtain ⟨rfl, rfl⟩ := H
     go_enter Try.func76, Try.ntmps76
     try go_wp2_with (first | ((with_reducible refine gate_dst (N := 2) rfl ?_); refine box_event ?hg (N := 2) ?hd (cs := #[.slice A0_0 l0_0.length c0_0, .slice A0_1 l0_1.length c0_1]) (t := 26) ?hr ?_; (case hd => rfl); (case hg => rfl); (case hr => first | (go_simp; done) | (go_simp; rfl)); intro gb178 hg w48 hbox hb; have BK178 := Aside0.mk (hbox); have GW178 := xg HB hg; have GE178 := xg HB hg; replace HB := xp HB hb; clear hb hbox hg) | ((with_reducible refine gate_dst (N := 3) rfl ?_); refine box_event ?hg (N := 3) ?hd (cs := #[.int .i64 a1_0, .int .i64 a1_1]) (t := 41) ?hr ?_; (case hd => rfl); (case hg => rfl); (case hr => first | (go_simp; done) | (go_simp; rfl)); intro gb179 hg w49 hbox hb; have BK179 := Aside0.mk (hbox); have GW179 := xg HB hg; have GE179 := xg HB hg; replace HB := xp HB hb; have NB178_179 := xl BK178 hg; have NB179_178 := xh BK178 hg; replace BK178 := xk BK178 hb; clear hb hbox hg) | ((with_reducible refine gate_dst (N := 4) rfl ?_); refine box_event ?hg (N := 4) ?hd (cs := #[.slice none 0 0, .slice none 0 0]) (t := 26) ?hr ?_; (case hd => rfl); (case hg => rfl); (case hr => first | (go_simp; done) | (go_simp; rfl)); intro gb180 hg w50 hbox hb; have BK180 := Aside0.mk (hbox); have GW180 := xg HB hg; have GE180 := xg HB hg; replace HB := xp HB hb; have NB178_180 := xl BK178 hg; have NB180_178 := xh BK178 hg; replace BK178 := xk BK178 hb; have NB179_180 := xl BK179 hg; have NB180_179 := xh BK179 hg; replace BK179 := xk BK179 hb; clear hb hbox hg; have hnb51 := NB178_179.out; have hnc51 := NB179_178.out; have hnb52 := NB178_180.out; have hnc52 := NB180_178.out; have hcz53_0 : w50.cell? ⟨gb178, 0, none⟩ = some (.slice A0_0 l0_0.length c0_0) := (blk_cell BK178.out 0).trans rfl; have hcz53_1 : w50.cell? ⟨gb178, 1, none⟩ = some (.slice A0_1 l0_1.length c0_1) := (blk_cell BK178.out 1).trans rfl; have hfz53_0 := blk_frozen BK178.out 0; have hfz53_1 := blk_frozen BK178.out 1; have hnb54 := NB179_180.out; have hnc54 := NB180_179.out; have hcz55_0 : w50.cell? ⟨gb179, 0, none⟩ = some (.int .i64 a1_0) := (blk_cell BK179.out 0).trans rfl; have hcz55_1 : w50.cell? ⟨gb179, 1, none⟩ = some (.int .i64 a1_1) := (blk_cell BK179.out 1).trans rfl; have hfz55_0 := blk_frozen BK179.out 0; have hfz55_1 := blk_frozen BK179.out 1) | ((with_reducible refine gate_callee (f := 81) rfl ?_); refine goesL_ (some 9) rfl rfl Try.func81 (by kernel_rfl) rfl #[.agg #[.slice A0_0 l0_0.length c0_0, .slice A0_1 l0_1.length c0_1], .agg #[.int .i64 a1_0, .int .i64 a1_1]] rfl (by (try simp only [List.map_toArray, List.map_cons, List.map_nil]); first | done | rfl | (simp only [List.length_drop, List.length_take]; rfl)) ?_; (with_reducible refine (spec_veAmount.calls _ _ l0_0 _ _ l0_1 a1_0 a1_1 t181 _ ?side1 ?side2 ?side3 ?side4 A3.out).mono ?_); (case side1 => exact xd ((Kd.C_below HR0_0.out HB.out))); (case side2 => exact HC0_0.out); (case side3 => exact xd ((Kd.C_below HR0_1.out HB.out))); (case side4 => exact HC0_1.out); rintro e w56 ⟨rfl, hb⟩; refine ⟨_, rfl, ?_⟩; replace BK178 := xk BK178 hb; replace BK179 := xk BK179 hb; replace BK180 := xk BK180 hb; replace HB := xp HB hb; (try clear hb); (try clear hb2); (try clear hk); (try clear hi)))
     replace BK178 := xv BK178
     replace BK179 := xv BK179
     replace BK180 := xv BK180
     replace HB := Aside0.mk (below_drew1 HB.out)
     refine start_ (n := 9) (S := fun w' => w'.cell? ⟨gb178, 0, none⟩ = some (.slice A0_0 l0_0.length c0_0) ∧ w'.cell? ⟨gb178, 1, none⟩ = some (.slice A0_1 l0_1.length c0_1)) (ds := []) #[false, false, false, false, false, false, false, false, false] (by kernel_rfl) rfl rfl ⟨(blk_cell BK178.out 0).trans rfl, (blk_cell BK178.out 1).trans rfl⟩ (fun hHeld => ?_); refine with_tabW spec_veMake.tab2 spec_veMake.bits2 (fun HT_ HW_ => ?_)
     generalize w56.drew = w57 at BK178 BK179 BK180 HB hHeld ⊢
     refine pure_ (i := 0) (N := some 10) (v := ?_) (a' := ?_) #[true, false, false, false, false, false, false, false, false] rfl rfl (any_of HT_.out (by kernel_rfl)) (fun _ _ _ h => h) (Or.inl ⟨by rfl, ?_⟩) ?_ ?_
     rotate_left
     ·intro w'
      go_simp
      with_reducible rfl
     rotate_left
     ·simp only [Act.put, List.setIfInBounds_toArray, List.set_cons_zero, List.set_cons_succ, i64_w, i32_w]
      rfl
     refine pure_ (i := 3) (N := some 13) (v := ?_) (a' := ?_) #[true, false, false, true, false, false, false, false, false] rfl rfl (any_of HT_.out (by kernel_rfl)) (fun _ _ _ h => h) (Or.inl ⟨by rfl, ?_⟩) ?_ ?_
     rotate_left
     ·intro w'
      go_simp
      with_reducible rfl
     rotate_left
     ·simp only [Act.put, List.setIfInBounds_toArray, List.set_cons_zero, List.set_cons_succ, i64_w, i32_w]
      rfl
     refine take_ (i := 1) (N := some 11) (v := ?_) (a' := ?_) #[true, true, false, true, false, false, false, false, false] rfl rfl (take_ofW HT_.out HW_.out (by kernel_rfl)) (fun _ _ _ h => h) (Or.inl ⟨by rfl, ?_⟩) hHeld ?_ ?_
     rotate_left
     ·rintro w' ⟨s0, s1⟩
      go_simp
      with_reducible rfl
     rotate_left
     ·simp only [Act.put, List.setIfInBounds_toArray, List.set_cons_zero, List.set_cons_succ, i64_w, i32_w]
      rfl
     refine take_ (i := 4) (N := some 14) (v := ?_) (a' := ?_) #[true, true, false, true, true, false, false, false, false] rfl rfl (take_ofW HT_.out HW_.out (by kernel_rfl)) (fun _ _ _ h => h) (Or.inl ⟨by rfl, ?_⟩) hHeld ?_ ?_
     rotate_left
     ·rintro w' ⟨s0, s1⟩
      go_simp
      with_reducible rfl
     rotate_left
     ·simp only [Act.put, List.setIfInBounds_toArray, List.set_cons_zero, List.set_cons_succ, i64_w, i32_w]
      rfl
     refine join_ (σ := Value × Value × Nat) 1 #[true, true, true, true, true, true, true, true, false] (fun s_ => [(12, s_.1), (15, s_.2.1), (6, .pointer (some ⟨s_.2.2, 0, none⟩)), (16, .agg #[s_.1, s_.2.1])]) (fun s_ w' => (w'.cell? ⟨gb178, 0, none⟩ = some (.slice A0_0 l0_0.length c0_0) ∧ w'.cell? ⟨gb178, 1, none⟩ = some (.slice A0_1 l0_1.length c0_1)) ∧ (Kd.R (Kd.int .i64) 3 w' w.heap.size (fun k_ => some k_ ≠ (s_.2.1 : Value).ownBlock) s_.1 t182) ∧ (Kd.R (Kd.int .i64) 3 w' w.heap.size (fun k_ => some k_ ≠ (s_.1 : Value).ownBlock) s_.2.1 t185) ∧ (w'.heap[gb178]? = some (.cells #[.slice A0_0 l0_0.length c0_0, .slice A0_1 l0_1.length c0_1] 26 (0, 0))) ∧ (w'.heap[gb179]? = some (.cells #[.int .i64 a1_0, .int .i64 a1_1] 41 (0, 0))) ∧ (w'.heap[gb180]? = some (.cells #[.slice none 0 0, .slice none 0 0] 26 (0, 0))) ∧ (w'.heap[s_.2.2]? = some (.cells #[.slice none 0 0, .slice none 0 0] 26 (0, 0))) ∧ (w.heap.size ≤ s_.2.2) ∧ (w.heap.size ≤ s_.2.2) ∧ (gb178 ≠ s_.2.2) ∧ (s_.2.2 ≠ gb178) ∧ (gb179 ≠ s_.2.2) ∧ (s_.2.2 ≠ gb179) ∧ (gb180 ≠ s_.2.2) ∧ (s_.2.2 ≠ gb180) ∧ (Below w.heap.size w w')) ?_ ?_
     rotate_left
     ·intro hCont
      refine two_ (i := 2) (j := 7) (Ni := some 12) (Nj := some 6) #[true, true, true, true, true, false, false, false, false] #[true, true, false, true, true, false, false, true, false] rfl rfl rfl rfl (two_of HT_.out (by kernel_rfl)) (by decide) (by decide) (fun K hK => ?_) (fun K hK => ?_)
      ·skip
       refine goes_ Try.func62 (by kernel_rfl) rfl #[.slice A0_0 l0_0.length c0_0] (by rfl) rfl rfl (by (try simp only [List.map_toArray, List.map_cons, List.map_nil]); first | done | rfl | (simp only [List.length_drop, List.length_take]; rfl)) ?_
       with_reducible refine (spec_l1Own.calls _ _ l0_0 t182 _ ?side1 ?side2 A4.out).mono ?_
       (case side1 => exact xd ((Kd.C_below HR0_0.out HB.out)))
       (case side2 => exact HC0_0.out)
       rintro e w58 ⟨v183, rfl, ho0, hb⟩
       refine ⟨_, rfl, ?_⟩
       have HO184 := Aside0.mk (Kd.R_lower ho0 (below_size (xs HB.out)))
       replace BK178 := xk BK178 hb
       replace BK179 := xk BK179 hb
       replace BK180 := xk BK180 hb
       replace HB := xp HB hb
       (try clear hb)
       (try clear hb2)
       (try clear hk)
       (try clear hi)
       (try clear ho0)
       refine hK.out _ _ ⟨(blk_cell BK178.out 0).trans rfl, (blk_cell BK178.out 1).trans rfl⟩ (fun hHeld => ?_)
       clear hK K
       refine norm_ (a' := ?_) ?_ ?_
       rotate_left
       ·show Act.put _ (some 12) _ = _
        simp only [Act.put, List.setIfInBounds_toArray, List.set_cons_zero, List.set_cons_succ, i64_w, i32_w]
        rfl
       refine two_ (i := 5) (j := 7) (Ni := some 15) (Nj := some 6) #[true, true, true, true, true, true, false, false, false] #[true, true, true, true, true, false, false, true, false] rfl rfl rfl rfl (two_of HT_.out (by kernel_rfl)) (by decide) (by decide) (fun K hK => ?_) (fun K hK => ?_)
       ·skip
        refine goes_ Try.func62 (by kernel_rfl) rfl #[.slice A0_1 l0_1.length c0_1] (by rfl) rfl rfl (by (try simp only [List.map_toArray, List.map_cons, List.map_nil]); first | done | rfl | (simp only [List.length_drop, List.length_take]; rfl)) ?_
        with_reducible refine (spec_l1Own.calls _ _ l0_1 t185 _ ?side1 ?side2 A5.out).mono ?_
        (case side1 => exact xd ((Kd.C_below HR0_1.out HB.out)))
        (case side2 => exact HC0_1.out)
        rintro e w59 ⟨v186, rfl, ho0, hb⟩
        refine ⟨_, rfl, ?_⟩
        have HO187 := Aside0.mk (Kd.R_lower (Kd.R_new' ho0 (Kd.R_lt (xr HO184.out))) (below_size (xs HB.out)))
        replace HO184 := Aside0.mk (Kd.R_elder' (xr HO184.out) (Kd.R_base ho0) hb)
        replace BK178 := xk BK178 hb
        replace BK179 := xk BK179 hb
        replace BK180 := xk BK180 hb
        replace HB := xp HB hb
        (try clear hb)
        (try clear hb2)
        (try clear hk)
        (try clear hi)
        (try clear ho0)
        obtain ⟨Ao60, co60, eo60⟩ := Kd.R_slice HO187.out
        (first | subst eo60 | (injection eo60 with f1_ f2_ f3_; have f4_ := f1_.symm; have f5_ := f3_.symm; clear f1_ f2_ f3_; subst f4_; subst f5_))
        obtain ⟨Ao61, co61, eo61⟩ := Kd.R_slice HO184.out
        (first | subst eo61 | (injection eo61 with f1_ f2_ f3_; have f4_ := f1_.symm; have f5_ := f3_.symm; clear f1_ f2_ f3_; subst f4_; subst f5_))
        refine hK.out _ _ ⟨(blk_cell BK178.out 0).trans rfl, (blk_cell BK178.out 1).trans rfl⟩ (fun hHeld => ?_)
        clear hK K
        refine norm_ (a' := ?_) ?_ ?_
        rotate_left
        ·show Act.put _ (some 15) _ = _
         simp only [Act.put, List.setIfInBounds_toArray, List.set_cons_zero, List.set_cons_succ, i64_w, i32_w]
         rfl
        refine pure_ (i := 6) (N := some 16) (v := ?_) (a' := ?_) #[true, true, true, true, true, true, true, false, false] rfl rfl (any_of HT_.out (by kernel_rfl)) (fun _ _ _ h => h) (Or.inl ⟨by rfl, ?_⟩) ?_ ?_
        rotate_left
        ·intro w'
         go_simp
         with_reducible rfl
        rotate_left
        ·simp only [Act.put, List.setIfInBounds_toArray, List.set_cons_zero, List.set_cons_succ, i64_w, i32_w]
         rfl
        refine one_ (i := 7) (N := some 6) #[true, true, true, true, true, true, true, true, false] rfl rfl (one_of HT_.out (by kernel_rfl)) (by decide) (fun K hK => ?_)
        refine box_step ?hg (N := 6) ?hd (cs := #[.slice none 0 0, .slice none 0 0]) (t := 26) ?hr ?_; (case hd => rfl); (case hg => rfl); (case hr => first | (go_simp; done) | (go_simp; rfl))
        intro gb188 hg w62 hbox hb
        replace HO184 := xq HO184 hb
        replace HO187 := xq HO187 hb
        have BK188 := Aside0.mk (hbox)
        have GW188 := xg HB hg
        have GE188 := xg HB hg
        replace HB := xp HB hb
        have NB178_188 := xl BK178 hg
        have NB188_178 := xh BK178 hg
        replace BK178 := xk BK178 hb
        have NB179_188 := xl BK179 hg
        have NB188_179 := xh BK179 hg
        replace BK179 := xk BK179 hb
        have NB180_188 := xl BK180 hg
        have NB188_180 := xh BK180 hg
        replace BK180 := xk BK180 hb
        clear hb hbox hg
        refine hK.out _ _ ⟨(blk_cell BK178.out 0).trans rfl, (blk_cell BK178.out 1).trans rfl⟩ (fun hHeld => ?_)
        clear hK K
        refine norm_ (a' := ?_) ?_ ?_
        rotate_left
        ·show Act.put _ (some 6) _ = _
         simp only [Act.put, List.setIfInBounds_toArray, List.set_cons_zero, List.set_cons_succ, i64_w, i32_w]
         rfl
        exact norm_ (by simp only [putAll, Act.put, List.setIfInBounds_toArray, List.set_cons_zero, List.set_cons_succ]) (hCont (.slice Ao61 t182.length co61, .slice Ao60 t185.length co60, gb188) _ ⟨hHeld, (xm HO184 (fun _ hk => hk.2)), (xm HO187 (fun _ hk => hk.2)), (xb BK178.out), (xb BK179.out), (xb BK180.out), (xb BK188.out), GW188.out, GE188.out, NB178_188.out, NB188_178.out, NB179_188.out, NB188_179.out, NB180_188.out, NB188_180.out, (xs HB.out)⟩)
       ·skip
        refine box_step ?hg (N := 6) ?hd (cs := #[.slice none 0 0, .slice none 0 0]) (t := 26) ?hr ?_; (case hd => rfl); (case hg => rfl); (case hr => first | (go_simp; done) | (go_simp; rfl))
        intro gb188 hg w59 hbox hb
        replace HO184 := xq HO184 hb
        have BK188 := Aside0.mk (hbox)
        have GW188 := xg HB hg
        have GE188 := xg HB hg
        replace HB := xp HB hb
        have NB178_188 := xl BK178 hg
        have NB188_178 := xh BK178 hg
        replace BK178 := xk BK178 hb
        have NB179_188 := xl BK179 hg
        have NB188_179 := xh BK179 hg
        replace BK179 := xk BK179 hb
        have NB180_188 := xl BK180 hg
        have NB188_180 := xh BK180 hg
        replace BK180 := xk BK180 hb
        clear hb hbox hg
        refine hK.out _ _ ⟨(blk_cell BK178.out 0).trans rfl, (blk_cell BK178.out 1).trans rfl⟩ (fun hHeld => ?_)
        clear hK K
        refine norm_ (a' := ?_) ?_ ?_
        rotate_left
        ·show Act.put _ (some 6) _ = _
         simp only [Act.put, List.setIfInBounds_toArray, List.set_cons_zero, List.set_cons_succ, i64_w, i32_w]
         rfl
        refine one_ (i := 5) (N := some 15) #[true, true, true, true, true, true, false, true, false] rfl rfl (one_of HT_.out (by kernel_rfl)) (by decide) (fun K hK => ?_)
        refine goes_ Try.func62 (by kernel_rfl) rfl #[.slice A0_1 l0_1.length c0_1] (by rfl) rfl rfl (by (try simp only [List.map_toArray, List.map_cons, List.map_nil]); first | done | rfl | (simp only [List.length_drop, List.length_take]; rfl)) ?_
        with_reducible refine (spec_l1Own.calls _ _ l0_1 t185 _ ?side1 ?side2 A5.out).mono ?_
        (case side1 => exact xd ((Kd.C_below HR0_1.out HB.out)))
        (case side2 => exact HC0_1.out)
        rintro e w60 ⟨v186, rfl, ho0, hb⟩
        refine ⟨_, rfl, ?_⟩
        have HO187 := Aside0.mk (Kd.R_lower (Kd.R_new' ho0 (Kd.R_lt (xr HO184.out))) (below_size (xs HB.out)))
        replace HO184 := Aside0.mk (Kd.R_elder' (xr HO184.out) (Kd.R_base ho0) hb)
        replace BK178 := xk BK178 hb
        replace BK179 := xk BK179 hb
        replace BK180 := xk BK180 hb
        replace BK188 := xk BK188 hb
        replace HB := xp HB hb
        (try clear hb)
        (try clear hb2)
        (try clear hk)
        (try clear hi)
        (try clear ho0)
        obtain ⟨Ao61, co61, eo61⟩ := Kd.R_slice HO187.out
        (first | subst eo61 | (injection eo61 with f1_ f2_ f3_; have f4_ := f1_.symm; have f5_ := f3_.symm; clear f1_ f2_ f3_; subst f4_; subst f5_))
        obtain ⟨Ao62, co62, eo62⟩ := Kd.R_slice HO184.out
        (first | subst eo62 | (injection eo62 with f1_ f2_ f3_; have f4_ := f1_.symm; have f5_ := f3_.symm; clear f1_ f2_ f3_; subst f4_; subst f5_))
        refine hK.out _ _ ⟨(blk_cell BK178.out 0).trans rfl, (blk_cell BK178.out 1).trans rfl⟩ (fun hHeld => ?_)
        clear hK K
        refine norm_ (a' := ?_) ?_ ?_
        rotate_left
        ·show Act.put _ (some 15) _ = _
         simp only [Act.put, List.setIfInBounds_toArray, List.set_cons_zero, List.set_cons_succ, i64_w, i32_w]
         rfl
        refine pure_ (i := 6) (N := some 16) (v := ?_) (a' := ?_) #[true, true, true, true, true, true, true, true, false] rfl rfl (any_of HT_.out (by kernel_rfl)) (fun _ _ _ h => h) (Or.inl ⟨by rfl, ?_⟩) ?_ ?_
        rotate_left
        ·intro w'
         go_simp
         with_reducible rfl
        rotate_left
        ·simp only [Act.put, List.setIfInBounds_toArray, List.set_cons_zero, List.set_cons_succ, i64_w, i32_w]
         rfl
        exact norm_ (by simp only [putAll, Act.put, List.setIfInBounds_toArray, List.set_cons_zero, List.set_cons_succ]) (hCont (.slice Ao62 t182.length co62, .slice Ao61 t185.length co61, gb188) _ ⟨hHeld, (xm HO184 (fun _ hk => hk.2)), (xm HO187 (fun _ hk => hk.2)), (xb BK178.out), (xb BK179.out), (xb BK180.out), (xb BK188.out), GW188.out, GE188.out, NB178_188.out, NB188_178.out, NB179_188.out, NB188_179.out, NB180_188.out, NB188_180.out, (xs HB.out)⟩)
      ·skip
       refine box_step ?hg (N := 6) ?hd (cs := #[.slice none 0 0, .slice none 0 0]) (t := 26) ?hr ?_; (case hd => rfl); (case hg => rfl); (case hr => first | (go_simp; done) | (go_simp; rfl))
       intro gb188 hg w58 hbox hb
       have BK188 := Aside0.mk (hbox)
       have GW188 := xg HB hg
       have GE188 := xg HB hg
       replace HB := xp HB hb
       have NB178_188 := xl BK178 hg
       have NB188_178 := xh BK178 hg
       replace BK178 := xk BK178 hb
       have NB179_188 := xl BK179 hg
       have NB188_179 := xh BK179 hg
       replace BK179 := xk BK179 hb
       have NB180_188 := xl BK180 hg
       have NB188_180 := xh BK180 hg
       replace BK180 := xk BK180 hb
       clear hb hbox hg
       refine hK.out _ _ ⟨(blk_cell BK178.out 0).trans rfl, (blk_cell BK178.out 1).trans rfl⟩ (fun hHeld => ?_)
       clear hK K
       refine norm_ (a' := ?_) ?_ ?_
       rotate_left
       ·show Act.put _ (some 6) _ = _
        simp only [Act.put, List.setIfInBounds_toArray, List.set_cons_zero, List.set_cons_succ, i64_w, i32_w]
        rfl
       refine one_ (i := 2) (N := some 12) #[true, true, true, true, true, false, false, true, false] rfl rfl (one_of HT_.out (by kernel_rfl)) (by decide) (fun K hK => ?_)
       refine goes_ Try.func62 (by kernel_rfl) rfl #[.slice A0_0 l0_0.length c0_0] (by rfl) rfl rfl (by (try simp only [List.map_toArray, List.map_cons, List.map_nil]); first | done | rfl | (simp only [List.length_drop, List.length_take]; rfl)) ?_
       with_reducible refine (spec_l1Own.calls _ _ l0_0 t182 _ ?side1 ?side2 A4.out).mono ?_
       (case side1 => exact xd ((Kd.C_below HR0_0.out HB.out)))
       (case side2 => exact HC0_0.out)
       rintro e w59 ⟨v183, rfl, ho0, hb⟩
       refine ⟨_, rfl, ?_⟩
       have HO184 := Aside0.mk (Kd.R_lower ho0 (below_size (xs HB.out)))
       replace BK178 := xk BK178 hb
       replace BK179 := xk BK179 hb
       replace BK180 := xk BK180 hb
       replace BK188 := xk BK188 hb
       replace HB := xp HB hb
       (try clear hb)
       (try clear hb2)
       (try clear hk)
       (try clear hi)
       (try clear ho0)
       refine hK.out _ _ ⟨(blk_cell BK178.out 0).trans rfl, (blk_cell BK178.out 1).trans rfl⟩ (fun hHeld => ?_)
       clear hK K
       refine norm_ (a' := ?_) ?_ ?_
       rotate_left
       ·show Act.put _ (some 12) _ = _
        simp only [Act.put, List.setIfInBounds_toArray, List.set_cons_zero, List.set_cons_succ, i64_w, i32_w]
        rfl
       refine one_ (i := 5) (N := some 15) #[true, true, true, true, true, true, false, true, false] rfl rfl (one_of HT_.out (by kernel_rfl)) (by decide) (fun K hK => ?_)
       refine goes_ Try.func62 (by kernel_rfl) rfl #[.slice A0_1 l0_1.length c0_1] (by rfl) rfl rfl (by (try simp only [List.map_toArray, List.map_cons, List.map_nil]); first | done | rfl | (simp only [List.length_drop, List.length_take]; rfl)) ?_
       with_reducible refine (spec_l1Own.calls _ _ l0_1 t185 _ ?side1 ?side2 A5.out).mono ?_
       (case side1 => exact xd ((Kd.C_below HR0_1.out HB.out)))
       (case side2 => exact HC0_1.out)
       rintro e w60 ⟨v186, rfl, ho0, hb⟩
       refine ⟨_, rfl, ?_⟩
       have HO187 := Aside0.mk (Kd.R_lower (Kd.R_new' ho0 (Kd.R_lt (xr HO184.out))) (below_size (xs HB.out)))
       replace HO184 := Aside0.mk (Kd.R_elder' (xr HO184.out) (Kd.R_base ho0) hb)
       replace BK178 := xk BK178 hb
       replace BK179 := xk BK179 hb
       replace BK180 := xk BK180 hb
       replace BK188 := xk BK188 hb
       replace HB := xp HB hb
       (try clear hb)
       (try clear hb2)
       (try clear hk)
       (try clear hi)
       (try clear ho0)
       obtain ⟨Ao61, co61, eo61⟩ := Kd.R_slice HO187.out
       (first | subst eo61 | (injection eo61 with f1_ f2_ f3_; have f4_ := f1_.symm; have f5_ := f3_.symm; clear f1_ f2_ f3_; subst f4_; subst f5_))
       obtain ⟨Ao62, co62, eo62⟩ := Kd.R_slice HO184.out
       (first | subst eo62 | (injection eo62 with f1_ f2_ f3_; have f4_ := f1_.symm; have f5_ := f3_.symm; clear f1_ f2_ f3_; subst f4_; subst f5_))
       refine hK.out _ _ ⟨(blk_cell BK178.out 0).trans rfl, (blk_cell BK178.out 1).trans rfl⟩ (fun hHeld => ?_)
       clear hK K
       refine norm_ (a' := ?_) ?_ ?_
       rotate_left
       ·show Act.put _ (some 15) _ = _
        simp only [Act.put, List.setIfInBounds_toArray, List.set_cons_zero, List.set_cons_succ, i64_w, i32_w]
        rfl
       refine pure_ (i := 6) (N := some 16) (v := ?_) (a' := ?_) #[true, true, true, true, true, true, true, true, false] rfl rfl (any_of HT_.out (by kernel_rfl)) (fun _ _ _ h => h) (Or.inl ⟨by rfl, ?_⟩) ?_ ?_
       rotate_left
       ·intro w'
        go_simp
        with_reducible rfl
       rotate_left
       ·simp only [Act.put, List.setIfInBounds_toArray, List.set_cons_zero, List.set_cons_succ, i64_w, i32_w]
        rfl
       exact norm_ (by simp only [putAll, Act.put, List.setIfInBounds_toArray, List.set_cons_zero, List.set_cons_succ]) (hCont (.slice Ao62 t182.length co62, .slice Ao61 t185.length co61, gb188) _ ⟨hHeld, (xm HO184 (fun _ hk => hk.2)), (xm HO187 (fun _ hk => hk.2)), (xb BK178.out), (xb BK179.out), (xb BK180.out), (xb BK188.out), GW188.out, GE188.out, NB178_188.out, NB188_178.out, NB179_188.out, NB188_179.out, NB180_188.out, NB188_180.out, (xs HB.out)⟩)
     rintro ⟨v183, v186, gb188⟩ w63 ⟨hS_, h0_, h1_, h2_, h3_, h4_, h5_, h6_, h7_, h8_, h9_, h10_, h11_, h12_, h13_, h14_⟩
     have n0_ : Aside0 (Kd.R (Kd.int .i64) 3 w63 w.heap.size (fun k_ => nV k_ v186) v183 t182) := ⟨h0_⟩
     have n1_ : Aside0 (Kd.R (Kd.int .i64) 3 w63 w.heap.size (fun k_ => nV k_ v183) v186 t185) := ⟨h1_⟩
     have n2_ : Aside0 (w63.heap[gb178]? = some (.cells #[.slice A0_0 l0_0.length c0_0, .slice A0_1 l0_1.length c0_1] 26 (0, 0))) := ⟨h2_⟩
     have n3_ : Aside0 (w63.heap[gb179]? = some (.cells #[.int .i64 a1_0, .int .i64 a1_1] 41 (0, 0))) := ⟨h3_⟩
     have n4_ : Aside0 (w63.heap[gb180]? = some (.cells #[.slice none 0 0, .slice none 0 0] 26 (0, 0))) := ⟨h4_⟩
     have n5_ : Aside0 (w63.heap[gb188]? = some (.cells #[.slice none 0 0, .slice none 0 0] 26 (0, 0))) := ⟨h5_⟩
     have n6_ : Aside0 (w.heap.size ≤ gb188) := ⟨h6_⟩
     have n7_ : Aside0 (w.heap.size ≤ gb188) := ⟨h7_⟩
     have n8_ : Aside0 (gb178 ≠ gb188) := ⟨h8_⟩
     have n9_ : Aside0 (gb188 ≠ gb178) := ⟨h9_⟩
     have n10_ : Aside0 (gb179 ≠ gb188) := ⟨h10_⟩
     have n11_ : Aside0 (gb188 ≠ gb179) := ⟨h11_⟩
     have n12_ : Aside0 (gb180 ≠ gb188) := ⟨h12_⟩
     have n13_ : Aside0 (gb188 ≠ gb180) := ⟨h13_⟩
     have n14_ : Aside0 (Below w.heap.size w w63) := ⟨h14_⟩
     clear BK178
     clear BK179
     clear BK180
     clear HB
     clear h0_ h1_ h2_ h3_ h4_ h5_ h6_ h7_ h8_ h9_ h10_ h11_ h12_ h13_ h14_
     have HO184 := n0_
     have HO187 := n1_
     have BK178 := n2_
     have BK179 := n3_
     have BK180 := n4_
     have BK188 := n5_
     have GW188 := n6_
     have GE188 := n7_
     have NB178_188 := n8_
     have NB188_178 := n9_
     have NB179_188 := n10_
     have NB188_179 := n11_
     have NB180_188 := n12_
     have NB188_180 := n13_
     have HB := n14_
     clear n0_ n1_ n2_ n3_ n4_ n5_ n6_ n7_ n8_ n9_ n10_ n11_ n12_ n13_ n14_
     have hHeld : w63.cell? ⟨gb178, 0, none⟩ = some (.slice A0_0 l0_0.length c0_0) ∧ w63.cell? ⟨gb178, 1, none⟩ = some (.slice A0_1 l0_1.length c0_1) := hS_
     obtain ⟨Ao64, co64, eo64⟩ := Kd.R_slice HO187.out
     (first | subst eo64 | (injection eo64 with f1_ f2_ f3_; have f4_ := f1_.symm; have f5_ := f3_.symm; clear f1_ f2_ f3_; subst f4_; subst f5_))
     obtain ⟨Ao65, co65, eo65⟩ := Kd.R_slice HO184.out
     (first | subst eo65 | (injection eo65 with f1_ f2_ f3_; have f4_ := f1_.symm; have f5_ := f3_.symm; clear f1_ f2_ f3_; subst f4_; subst f5_))
     refine norm_ (a' := ?_) ?_ ?_
     rotate_left
     ·simp only [putAll, Act.put, List.setIfInBounds_toArray, List.set_cons_zero, List.set_cons_succ]
      rfl
     refine one_ (i := 8) (N := none) #[true, true, true, true, true, true, true, true, true] rfl rfl (one_of HT_.out (by kernel_rfl)) (by decide) (fun K hK => ?_)
     have hs66 : w63.cell? ⟨gb188, 0, none⟩ = some (.slice none 0 0) := (blk_cell BK188.out 0).trans rfl
     have hfs66 := blk_frozen BK188.out 0
     have hns66_0 := NB178_188.out
     have hns66_1 := NB179_188.out
     have hns66_2 := NB180_188.out
     have hms66_0 := NB188_178.out
     have hms66_1 := NB188_179.out
     have hms66_2 := NB188_180.out
     have hs67 : w63.cell? ⟨gb188, 1, none⟩ = some (.slice none 0 0) := (blk_cell BK188.out 1).trans rfl
     have hfs67 := blk_frozen BK188.out 1
     have hns67_0 := NB178_188.out
     have hns67_1 := NB179_188.out
     have hns67_2 := NB180_188.out
     have hms67_0 := NB188_178.out
     have hms67_1 := NB188_179.out
     have hms67_2 := NB188_180.out
     refine skip_ (w1 := ?_) (by rfl) rfl ?_ ?_
     rotate_left
     ·go_simp
      rfl
     refine hK.out _ _ ⟨((cell_far (p := ⟨gb188, _, none⟩) NB178_188.out _).trans (((cell_far (p := ⟨gb188, _, none⟩) NB178_188.out _).trans (hHeld.1)))), ((cell_far (p := ⟨gb188, _, none⟩) NB178_188.out _).trans (((cell_far (p := ⟨gb188, _, none⟩) NB178_188.out _).trans (hHeld.2))))⟩ (fun hHeld => ?_)
     clear hK K
     refine done_ (done_of HT_.out (by kernel_rfl)) ?_
     have n0_ : Aside0 (Kd.R (Kd.int .i64) 3 ((w63.setCell ⟨gb188, 0, none⟩ (.slice Ao65 t182.length co65)).setCell ⟨gb188, 1, none⟩ (.slice Ao64 t185.length co64)) w.heap.size (fun k_ => nS k_ Ao64 t185.length co64) (.slice Ao65 t182.length co65) t182) := ⟨by (with_reducible repeat (first | apply Kd.R_alloc | apply Kd.R_drewN | apply Kd.R_drew)); exact Kd.R_mono (Kd.R_far (p := ⟨gb188, 1, none⟩) (Kd.R_far (p := ⟨gb188, 0, none⟩) (Kd.R_types HO184.out BK188.out (by decide)) (fun _ hk => hk.2) (.slice Ao65 t182.length co65)) (fun _ hk => hk.2) (.slice Ao64 t185.length co64)) (fun _ hk => hk.1)⟩
     have n1_ : Aside0 (Kd.R (Kd.int .i64) 3 ((w63.setCell ⟨gb188, 0, none⟩ (.slice Ao65 t182.length co65)).setCell ⟨gb188, 1, none⟩ (.slice Ao64 t185.length co64)) w.heap.size (fun k_ => nS k_ Ao65 t182.length co65) (.slice Ao64 t185.length co64) t185) := ⟨by (with_reducible repeat (first | apply Kd.R_alloc | apply Kd.R_drewN | apply Kd.R_drew)); exact Kd.R_mono (Kd.R_far (p := ⟨gb188, 1, none⟩) (Kd.R_far (p := ⟨gb188, 0, none⟩) (Kd.R_types HO187.out BK188.out (by decide)) (fun _ hk => hk.2) (.slice Ao65 t182.length co65)) (fun _ hk => hk.2) (.slice Ao64 t185.length co64)) (fun _ hk => hk.1)⟩
     have n2_ : Aside0 (((w63.setCell ⟨gb188, 0, none⟩ (.slice Ao65 t182.length co65)).setCell ⟨gb188, 1, none⟩ (.slice Ao64 t185.length co64)).heap[gb178]? = some (.cells #[.slice A0_0 l0_0.length c0_0, .slice A0_1 l0_1.length c0_1] 26 (0, 0))) := ⟨xff NB178_188.out NB178_188.out BK178.out⟩
     have n3_ : Aside0 (((w63.setCell ⟨gb188, 0, none⟩ (.slice Ao65 t182.length co65)).setCell ⟨gb188, 1, none⟩ (.slice Ao64 t185.length co64)).heap[gb179]? = some (.cells #[.int .i64 a1_0, .int .i64 a1_1] 41 (0, 0))) := ⟨xff NB179_188.out NB179_188.out BK179.out⟩
     have n4_ : Aside0 (((w63.setCell ⟨gb188, 0, none⟩ (.slice Ao65 t182.length co65)).setCell ⟨gb188, 1, none⟩ (.slice Ao64 t185.length co64)).heap[gb180]? = some (.cells #[.slice none 0 0, .slice none 0 0] 26 (0, 0))) := ⟨xff NB180_188.out NB180_188.out BK180.out⟩
     have n5_ : Aside0 (((w63.setCell ⟨gb188, 0, none⟩ (.slice Ao65 t182.length co65)).setCell ⟨gb188, 1, none⟩ (.slice Ao64 t185.length co64)).heap[gb188]? = some (.cells #[.slice Ao65 t182.length co65, .slice Ao64 t185.length co64] 26 (0, 0))) := ⟨by (with_reducible repeat (first | refine blk_drewN ?_ _ | refine blk_drew ?_ | refine blk_alloc ?_ _)); refine blk_put (cs := #[.slice Ao65 t182.length co65, .slice none 0 0]) ?_ 1 _ rfl; (with_reducible repeat (first | refine blk_drewN ?_ _ | refine blk_drew ?_ | refine blk_alloc ?_ _)); refine blk_put (cs := #[.slice none 0 0, .slice none 0 0]) ?_ 0 _ rfl; (with_reducible repeat (first | refine blk_drewN ?_ _ | refine blk_drew ?_ | refine blk_alloc ?_ _)); exact BK188.out⟩
     have n6_ : Aside0 (Below w.heap.size w ((w63.setCell ⟨gb188, 0, none⟩ (.slice Ao65 t182.length co65)).setCell ⟨gb188, 1, none⟩ (.slice Ao64 t185.length co64))) := ⟨xs HB.out⟩
     (try clear HO184)
     (try clear HO187)
     (try clear BK178)
     (try clear BK179)
     (try clear BK180)
     (try clear BK188)
     (try clear HB)
     generalize ((w63.setCell ⟨gb188, 0, none⟩ (.slice Ao65 t182.length co65)).setCell ⟨gb188, 1, none⟩ (.slice Ao64 t185.length co64)) = w68 at n0_ n1_ n2_ n3_ n4_ n5_ n6_ ⊢
     have HO184 := n0_
     have HO187 := n1_
     have BK178 := n2_
     have BK179 := n3_
     have BK180 := n4_
     have BK188 := n5_
     have HB := n6_
     clear n0_ n1_ n2_ n3_ n4_ n5_ n6_
     have hnb69 := NB179_188.out
     have hnc69 := NB188_179.out
     have hcz70_0 : w68.cell? ⟨gb179, 0, none⟩ = some (.int .i64 a1_0) := (blk_cell BK179.out 0).trans rfl
     have hcz70_1 : w68.cell? ⟨gb179, 1, none⟩ = some (.int .i64 a1_1) := (blk_cell BK179.out 1).trans rfl
     have hfz70_0 := blk_frozen BK179.out 0
     have hfz70_1 := blk_frozen BK179.out 1
     have hnb71 := NB188_178.out
     have hnc71 := NB178_188.out
     have hnb72 := NB188_180.out
     have hnc72 := NB180_188.out
     have hcz73_0 : w68.cell? ⟨gb188, 0, none⟩ = some (.slice Ao65 t182.length co65) := (blk_cell BK188.out 0).trans rfl
     have hcz73_1 : w68.cell? ⟨gb188, 1, none⟩ = some (.slice Ao64 t185.length co64) := (blk_cell BK188.out 1).trans rfl
     have hfz73_0 := blk_frozen BK188.out 0
     have hfz73_1 := blk_frozen BK188.out 1
     have p189 : 0 ≤ (a1_0 : Int) := of_decide_eq_true (by first | (with_reducible assumption) | assumption)
     have q189 : a1_0 < (t185.length : Int) := of_decide_eq_true (by first | (with_reducible assumption) | assumption)
     obtain ⟨ad189, e189, hx189_0⟩ := Kd.at_int (Kd.R_reads' HO187.out).2.2 a1_0 p189 q189
     cases e189
     replace p189 := eq_true p189
     replace q189 := eq_true q189
     have p9 : 0 ≤ (a1_0 : Int) := of_decide_eq_true (by first | (with_reducible assumption) | assumption)
     have q9 : (a1_0 : Int) < ((t185.length : Int) : Int) := of_decide_eq_true (by first | (with_reducible assumption) | assumption)
     obtain ⟨go9, co9, eo9, gb9, gl9, cl9, HG9⟩ := Kd.R_form HO187.out (by omega)
     (first | cases eo9 | (injection eo9 with ea_ en_ ec_; (first | subst ea_ | (injection ea_ with ea_; subst ea_)); subst ec_; clear en_))
     have GB9 := Aside0.mk gb9
     have GG9 := Aside0.mk HG9
     clear gb9 gl9 HG9
     (first | simp only [add_plain] at hx189_0 | skip)
     obtain ⟨hx9_0, hf9_0⟩ := Kd.R_celln 0 HO187.out (a1_0 : Int) p9 q9
     replace p9 := eq_true p9
     replace q9 := eq_true q9
     obtain ⟨hy74_, hz74_⟩ := Kd.R_celln 0 HO187.out (a1_0 : Int) (of_decide_eq_true (by first | (with_reducible assumption) | assumption)) (of_decide_eq_true (by first | (with_reducible assumption) | assumption))
     have HP74 := Kd.R_putg HO187.out (a1_0 : Int) (wrap64 ((rd t185 a1_0) - t181))
     try go_wp2_with (first | ((with_reducible refine gate_store (t := 3) (p := 28) rfl ?_); refine store_event (t := 3) (p := 28) (v := ?vo_w75) (w1 := (w68.setCell ⟨go9, (a1_0 : Int).toNat, none⟩ (.int .i64 (wrap64 ((rd t185 a1_0) - t181))))) ?hg ?ho ?hn ?hr ?_; (case ho => rfl); (case hg => rfl); (case hn => rfl); (case hr => first | (go_simp; done) | (go_simp; rfl)); intro w75 hw; have hg : w68.grownBy w75 (some go9) := (by rw [hw]; exact HP74.2); have hp_ : Kd.R (Kd.int .i64) 3 w75 w.heap.size (fun k_ => nS k_ Ao65 t182.length co65) (.slice (some ⟨go9, 0, none⟩) t185.length co64) y190 := (by rw [hw, Ny190.out]; exact HP74.1); clear HP74; replace BK178 := Aside0.mk (blk_grown (g := gb178) (o := .cells #[.slice A0_0 l0_0.length c0_0, .slice A0_1 l0_1.length c0_1] 26 (0, 0)) (xb BK178.out) hg (Kd.R_ne HO187.out BK178.out (by decide))); replace BK179 := Aside0.mk (blk_grown (g := gb179) (o := .cells #[.int .i64 a1_0, .int .i64 a1_1] 41 (0, 0)) (xb BK179.out) hg (Kd.R_ne HO187.out BK179.out (by decide))); replace BK180 := Aside0.mk (blk_grown (g := gb180) (o := .cells #[.slice none 0 0, .slice none 0 0] 26 (0, 0)) (xb BK180.out) hg (Kd.R_ne HO187.out BK180.out (by decide))); replace HO184 := Aside0.mk (Kd.R_after (v := (.slice (some ⟨go9, 0, none⟩) t185.length co64)) (v1 := (.slice (some ⟨go9, 0, none⟩) t185.length co64)) (ok := (fun _ => True)) (xm HO184 (fun _ hk => ⟨trivial, hk⟩)) hg (.inl rfl)); replace BK188 := Aside0.mk (blk_grown (g := gb188) (o := .cells #[.slice Ao65 t182.length co65, .slice (some ⟨go9, 0, none⟩) t185.length co64] 26 (0, 0)) (xb BK188.out) hg (Kd.R_ne HO187.out BK188.out (by decide))); replace HO187 := Aside0.mk (hp_); replace HB := Aside0.mk ((by rw [hw]; exact below_set (HB.out) GB9.out : Below w.heap.size w w75)); clear hg hw hp_; have hcz76_0 : w75.cell? ⟨gb179, 0, none⟩ = some (.int .i64 a1_0) := (blk_cell BK179.out 0).trans rfl; have hcz76_1 : w75.cell? ⟨gb179, 1, none⟩ = some (.int .i64 a1_1) := (blk_cell BK179.out 1).trans rfl; have hfz76_0 := blk_frozen BK179.out 0; have hfz76_1 := blk_frozen BK179.out 1; have hcz77_0 : w75.cell? ⟨gb188, 0, none⟩ = some (.slice Ao65 t182.length co65) := (blk_cell BK188.out 0).trans rfl; have hcz77_1 : w75.cell? ⟨gb188, 1, none⟩ = some (.slice (some ⟨go9, 0, none⟩) t185.length co64) := (blk_cell BK188.out 1).trans rfl; have hfz77_0 := blk_frozen BK188.out 0; have hfz77_1 := blk_frozen BK188.out 1; have hcz78_0 : w75.cell? ⟨gb180, 0, none⟩ = some (.slice none 0 0) := (blk_cell BK180.out 0).trans rfl; have hcz78_1 : w75.cell? ⟨gb180, 1, none⟩ = some (.slice none 0 0) := (blk_cell BK180.out 1).trans rfl; have hfz78_0 := blk_frozen BK180.out 0; have hfz78_1 := blk_frozen BK180.out 1))
     refine bodyPost_ret (results_cell_row rfl _ _ gb180 26 #[.slice Ao65 t182.length co65, .slice (some ⟨go9, 0, none⟩) t185.length co64] (0, 0) _ rfl (by (with_reducible repeat (first | refine blk_drewN ?_ _ | refine blk_drew ?_ | refine blk_alloc ?_ _)); refine blk_put (cs := #[.slice Ao65 t182.length co65, .slice none 0 0]) ?_ 1 _ rfl; (with_reducible repeat (first | refine blk_drewN ?_ _ | refine blk_drew ?_ | refine blk_alloc ?_ _)); refine blk_put (cs := #[.slice none 0 0, .slice none 0 0]) ?_ 0 _ rfl; (with_reducible repeat (first | refine blk_drewN ?_ _ | refine blk_drew ?_ | refine blk_alloc ?_ _)); exact BK180.out) Try.underlying26 rfl (by kernel_rfl)) rfl ?_
     exact ⟨_, _, by first | rfl | (simp [errW_none, errW_some] <;> rfl) | (simp [*, errW_none, errW_some] <;> rfl), by (with_reducible repeat (first | apply Kd.R_alloc | apply Kd.R_drewN | apply Kd.R_drew)); exact Kd.R_mono (Kd.R_far (p := ⟨gb180, 1, none⟩) (Kd.R_far (p := ⟨gb180, 0, none⟩) (Kd.R_types HO184.out BK180.out (by decide)) (fun _ hk => hk.2) (.slice Ao65 t182.length co65)) (fun _ hk => hk.2) (.slice (some ⟨go9, 0, none⟩) t185.length co64)) (fun _ hk => hk.1.2), by (with_reducible repeat (first | apply Kd.R_alloc | apply Kd.R_drewN | apply Kd.R_drew)); exact Kd.R_mono (Kd.R_far (p := ⟨gb180, 1, none⟩) (Kd.R_far (p := ⟨gb180, 0, none⟩) (Kd.R_types HO187.out BK180.out (by decide)) (fun _ hk => hk.2) (.slice Ao65 t182.length co65)) (fun _ hk => hk.2) (.slice (some ⟨go9, 0, none⟩) t185.length co64)) (fun _ hk => hk.1), by repeat (first | (with_reducible first | exact HB.out | apply below_alloc | apply pw_below_drewN | apply below_drew1 | refine below_set ?_ GE178.out | refine below_set ?_ GE179.out | refine below_set ?_ GE180.out | refine below_set ?_ GE188.out) | exact HB.out)⟩
   ·rw [if_neg c8] at H
    exact absurd H (by simp)
  ·rw [if_neg c7] at H
   exact absurd H (by simp)
 ·rw [if_neg c6] at H
  have c6b0 : decide (0 ≤ a1_0) = false := decide_eq_false c6
  clear c6
  by_cases c79 : a1_1 ≥ 0
  ·rw [if_pos c79] at H
   have c79b0 : decide (0 ≤ a1_1) = true := decide_eq_true c79
   clear c79
   by_cases c80 : 0 ≤ a1_1
   ·rw [if_pos c80] at H
    have c80b0 : decide (0 ≤ a1_1) = true := decide_eq_true c80
    clear c80
    by_cases c81 : a1_1 < (t185.length : Int)
    ·rw [if_pos c81] at H
     have c81b0 : decide (a1_1 < (t185.length : Int)) = true := decide_eq_true c81
     clear c81
     obtain ⟨y194, hy194⟩ : ∃ y_ : List Int, y_ = (t185.set (a1_1 : Int).toNat (wrap64 ((rd t185 a1_1) + t181))) := ⟨_, rfl⟩
     replace H : (some (t182, y194)) = some (r1, r2) := by first | (rw [hy194]; with_reducible exact H) | (have H2_ := (Option.bind_some _ _).symm.trans H; rw [hy194]; with_reducible exact H2_) | (have H2_ := (Option.bind_some _ _).symm.trans H; with_reducible exact H2_) | with_reducible exact H | (rw [hy194]; exact H) | exact H
     have Ny194 := Aside0.mk hy194
     clear hy194
     simp only [Option.some.injEq, Prod.mk.injEq] at H
     obtain ⟨rfl, rfl⟩ := H
     go_enter Try.func76, Try.ntmps76
     try go_wp2_with (first | ((with_reducible refine gate_dst (N := 2) rfl ?_); refine box_event ?hg (N := 2) ?hd (cs := #[.slice A0_0 l0_0.length c0_0, .slice A0_1 l0_1.length c0_1]) (t := 26) ?hr ?_; (case hd => rfl); (case hg => rfl); (case hr => first | (go_simp; done) | (go_simp; rfl)); intro gb178 hg w83 hbox hb; have BK178 := Aside0.mk (hbox); have GW178 := xg HB hg; have GE178 := xg HB hg; replace HB := xp HB hb; clear hb hbox hg) | ((with_reducible refine gate_dst (N := 3) rfl ?_); refine box_event ?hg (N := 3) ?hd (cs := #[.int .i64 a1_0, .int .i64 a1_1]) (t := 41) ?hr ?_; (case hd => rfl); (case hg => rfl); (case hr => first | (go_simp; done) | (go_simp; rfl)); intro gb179 hg w84 hbox hb; have BK179 := Aside0.mk (hbox); have GW179 := xg HB hg; have GE179 := xg HB hg; replace HB := xp HB hb; have NB178_179 := xl BK178 hg; have NB179_178 := xh BK178 hg; replace BK178 := xk BK178 hb; clear hb hbox hg) | ((with_reducible refine gate_dst (N := 4) rfl ?_); refine box_event ?hg (N := 4) ?hd (cs := #[.slice none 0 0, .slice none 0 0]) (t := 26) ?hr ?_; (case hd => rfl); (case hg => rfl); (case hr => first | (go_simp; done) | (go_simp; rfl)); intro gb180 hg w85 hbox hb; have BK180 := Aside0.mk (hbox); have GW180 := xg HB hg; have GE180 := xg HB hg; replace HB := xp HB hb; have NB178_180 := xl BK178 hg; have NB180_178 := xh BK178 hg; replace BK178 := xk BK178 hb; have NB179_180 := xl BK179 hg; have NB180_179 := xh BK179 hg; replace BK179 := xk BK179 hb; clear hb hbox hg; have hnb86 := NB178_179.out; have hnc86 := NB179_178.out; have hnb87 := NB178_180.out; have hnc87 := NB180_178.out; have hcz88_0 : w85.cell? ⟨gb178, 0, none⟩ = some (.slice A0_0 l0_0.length c0_0) := (blk_cell BK178.out 0).trans rfl; have hcz88_1 : w85.cell? ⟨gb178, 1, none⟩ = some (.slice A0_1 l0_1.length c0_1) := (blk_cell BK178.out 1).trans rfl; have hfz88_0 := blk_frozen BK178.out 0; have hfz88_1 := blk_frozen BK178.out 1; have hnb89 := NB179_180.out; have hnc89 := NB180_179.out; have hcz90_0 : w85.cell? ⟨gb179, 0, none⟩ = some (.int .i64 a1_0) := (blk_cell BK179.out 0).trans rfl; have hcz90_1 : w85.cell? ⟨gb179, 1, none⟩ = some (.int .i64 a1_1) := (blk_cell BK179.out 1).trans rfl; have hfz90_0 := blk_frozen BK179.out 0; have hfz90_1 := blk_frozen BK179.out 1) | ((with_reducible refine gate_callee (f := 81) rfl ?_); refine goesL_ (some 9) rfl rfl Try.func81 (by kernel_rfl) rfl #[.agg #[.slice A0_0 l0_0.length c0_0, .slice A0_1 l0_1.length c0_1], .agg #[.int .i64 a1_0, .int .i64 a1_1]] rfl (by (try simp only [List.map_toArray, List.map_cons, List.map_nil]); first | done | rfl | (simp only [List.length_drop, List.length_take]; rfl)) ?_; (with_reducible refine (spec_veAmount.calls _ _ l0_0 _ _ l0_1 a1_0 a1_1 t181 _ ?side1 ?side2 ?side3 ?side4 A3.out).mono ?_); (case side1 => exact xd ((Kd.C_below HR0_0.out HB.out))); (case side2 => exact HC0_0.out); (case side3 => exact xd ((Kd.C_below HR0_1.out HB.out))); (case side4 => exact HC0_1.out); rintro e w91 ⟨rfl, hb⟩; refine ⟨_, rfl, ?_⟩; replace BK178 := xk BK178 hb; replace BK179 := xk BK179 hb; replace BK180 := xk BK180 hb; replace HB := xp HB hb; (try clear hb); (try clear hb2); (try clear hk); (try clear hi)))
     replace BK178 := xv BK178
     replace BK179 := xv BK179
     replace BK180 := xv BK180
     replace HB := Aside0.mk (below_drew1 HB.out)
     refine start_ (n := 9) (S := fun w' => w'.cell? ⟨gb178, 0, none⟩ = some (.slice A0_0 l0_0.length c0_0) ∧ w'.cell? ⟨gb178, 1, none⟩ = some (.slice A0_1 l0_1.length c0_1)) (ds := []) #[false, false, false, false, false, false, false, false, false] (by kernel_rfl) rfl rfl ⟨(blk_cell BK178.out 0).trans rfl, (blk_cell BK178.out 1).trans rfl⟩ (fun hHeld => ?_); refine with_tabW spec_veMake.tab2 spec_veMake.bits2 (fun HT_ HW_ => ?_)
     generalize w91.drew = w92 at BK178 BK179 BK180 HB hHeld ⊢
     refine pure_ (i := 0) (N := some 10) (v := ?_) (a' := ?_) #[true, false, false, false, false, false, false, false, false] rfl rfl (any_of HT_.out (by kernel_rfl)) (fun _ _ _ h => h) (Or.inl ⟨by rfl, ?_⟩) ?_ ?_
     rotate_left
     ·intro w'
      go_simp
      with_reducible rfl
     rotate_left
     ·simp only [Act.put, List.setIfInBounds_toArray, List.set_cons_zero, List.set_cons_succ, i64_w, i32_w]
      rfl
     refine pure_ (i := 3) (N := some 13) (v := ?_) (a' := ?_) #[true, false, false, true, false, false, false, false, false] rfl rfl (any_of HT_.out (by kernel_rfl)) (fun _ _ _ h => h) (Or.inl ⟨by rfl, ?_⟩) ?_ ?_
     rotate_left
     ·intro w'
      go_simp
      with_reducible rfl
     rotate_left
     ·simp only [Act.put, List.setIfInBounds_toArray, List.set_cons_zero, List.set_cons_succ, i64_w, i32_w]
      rfl
     refine take_ (i := 1) (N := some 11) (v := ?_) (a' := ?_) #[true, true, false, true, false, false, false, false, false] rfl rfl (take_ofW HT_.out HW_.out (by kernel_rfl)) (fun _ _ _ h => h) (Or.inl ⟨by rfl, ?_⟩) hHeld ?_ ?_
     rotate_left
     ·rintro w' ⟨s0, s1⟩
      go_simp
      with_reducible rfl
     rotate_left
     ·simp only [Act.put, List.setIfInBounds_toArray, List.set_cons_zero, List.set_cons_succ, i64_w, i32_w]
      rfl
     refine take_ (i := 4) (N := some 14) (v := ?_) (a' := ?_) #[true, true, false, true, true, false, false, false, false] rfl rfl (take_ofW HT_.out HW_.out (by kernel_rfl)) (fun _ _ _ h => h) (Or.inl ⟨by rfl, ?_⟩) hHeld ?_ ?_
     rotate_left
     ·rintro w' ⟨s0, s1⟩
      go_simp
      with_reducible rfl
     rotate_left
     ·simp only [Act.put, List.setIfInBounds_toArray, List.set_cons_zero, List.set_cons_succ, i64_w, i32_w]
      rfl
     refine join_ (σ := Value × Value × Nat) 1 #[true, true, true, true, true, true, true, true, false] (fun s_ => [(12, s_.1), (15, s_.2.1), (6, .pointer (some ⟨s_.2.2, 0, none⟩)), (16, .agg #[s_.1, s_.2.1])]) (fun s_ w' => (w'.cell? ⟨gb178, 0, none⟩ = some (.slice A0_0 l0_0.length c0_0) ∧ w'.cell? ⟨gb178, 1, none⟩ = some (.slice A0_1 l0_1.length c0_1)) ∧ (Kd.R (Kd.int .i64) 3 w' w.heap.size (fun k_ => some k_ ≠ (s_.2.1 : Value).ownBlock) s_.1 t182) ∧ (Kd.R (Kd.int .i64) 3 w' w.heap.size (fun k_ => some k_ ≠ (s_.1 : Value).ownBlock) s_.2.1 t185) ∧ (w'.heap[gb178]? = some (.cells #[.slice A0_0 l0_0.length c0_0, .slice A0_1 l0_1.length c0_1] 26 (0, 0))) ∧ (w'.heap[gb179]? = some (.cells #[.int .i64 a1_0, .int .i64 a1_1] 41 (0, 0))) ∧ (w'.heap[gb180]? = some (.cells #[.slice none 0 0, .slice none 0 0] 26 (0, 0))) ∧ (w'.heap[s_.2.2]? = some (.cells #[.slice none 0 0, .slice none 0 0] 26 (0, 0))) ∧ (w.heap.size ≤ s_.2.2) ∧ (w.heap.size ≤ s_.2.2) ∧ (gb178 ≠ s_.2.2) ∧ (s_.2.2 ≠ gb178) ∧ (gb179 ≠ s_.2.2) ∧ (s_.2.2 ≠ gb179) ∧ (gb180 ≠ s_.2.2) ∧ (s_.2.2 ≠ gb180) ∧ (Below w.heap.size w w')) ?_ ?_
     rotate_left
     ·intro hCont
      refine two_ (i := 2) (j := 7) (Ni := some 12) (Nj := some 6) #[true, true, true, true, true, false, false, false, false] #[true, true, false, true, true, false, false, true, false] rfl rfl rfl rfl (two_of HT_.out (by kernel_rfl)) (by decide) (by decide) (fun K hK => ?_) (fun K hK => ?_)
      ·skip
       refine goes_ Try.func62 (by kernel_rfl) rfl #[.slice A0_0 l0_0.length c0_0] (by rfl) rfl rfl (by (try simp only [List.map_toArray, List.map_cons, List.map_nil]); first | done | rfl | (simp only [List.length_drop, List.length_take]; rfl)) ?_
       with_reducible refine (spec_l1Own.calls _ _ l0_0 t182 _ ?side1 ?side2 A4.out).mono ?_
       (case side1 => exact xd ((Kd.C_below HR0_0.out HB.out)))
       (case side2 => exact HC0_0.out)
       rintro e w93 ⟨v183, rfl, ho0, hb⟩
       refine ⟨_, rfl, ?_⟩
       have HO184 := Aside0.mk (Kd.R_lower ho0 (below_size (xs HB.out)))
       replace BK178 := xk BK178 hb
       replace BK179 := xk BK179 hb
       replace BK180 := xk BK180 hb
       replace HB := xp HB hb
       (try clear hb)
       (try clear hb2)
       (try clear hk)
       (try clear hi)
       (try clear ho0)
       refine hK.out _ _ ⟨(blk_cell BK178.out 0).trans rfl, (blk_cell BK178.out 1).trans rfl⟩ (fun hHeld => ?_)
       clear hK K
       refine norm_ (a' := ?_) ?_ ?_
       rotate_left
       ·show Act.put _ (some 12) _ = _
        simp only [Act.put, List.setIfInBounds_toArray, List.set_cons_zero, List.set_cons_succ, i64_w, i32_w]
        rfl
       refine two_ (i := 5) (j := 7) (Ni := some 15) (Nj := some 6) #[true, true, true, true, true, true, false, false, false] #[true, true, true, true, true, false, false, true, false] rfl rfl rfl rfl (two_of HT_.out (by kernel_rfl)) (by decide) (by decide) (fun K hK => ?_) (fun K hK => ?_)
       ·skip
        refine goes_ Try.func62 (by kernel_rfl) rfl #[.slice A0_1 l0_1.length c0_1] (by rfl) rfl rfl (by (try simp only [List.map_toArray, List.map_cons, List.map_nil]); first | done | rfl | (simp only [List.length_drop, List.length_take]; rfl)) ?_
        with_reducible refine (spec_l1Own.calls _ _ l0_1 t185 _ ?side1 ?side2 A5.out).mono ?_
        (case side1 => exact xd ((Kd.C_below HR0_1.out HB.out)))
        (case side2 => exact HC0_1.out)
        rintro e w94 ⟨v186, rfl, ho0, hb⟩
        refine ⟨_, rfl, ?_⟩
        have HO187 := Aside0.mk (Kd.R_lower (Kd.R_new' ho0 (Kd.R_lt (xr HO184.out))) (below_size (xs HB.out)))
        replace HO184 := Aside0.mk (Kd.R_elder' (xr HO184.out) (Kd.R_base ho0) hb)
        replace BK178 := xk BK178 hb
        replace BK179 := xk BK179 hb
        replace BK180 := xk BK180 hb
        replace HB := xp HB hb
        (try clear hb)
        (try clear hb2)
        (try clear hk)
        (try clear hi)
        (try clear ho0)
        obtain ⟨Ao95, co95, eo95⟩ := Kd.R_slice HO187.out
        (first | subst eo95 | (injection eo95 with f1_ f2_ f3_; have f4_ := f1_.symm; have f5_ := f3_.symm; clear f1_ f2_ f3_; subst f4_; subst f5_))
        obtain ⟨Ao96, co96, eo96⟩ := Kd.R_slice HO184.out
        (first | subst eo96 | (injection eo96 with f1_ f2_ f3_; have f4_ := f1_.symm; have f5_ := f3_.symm; clear f1_ f2_ f3_; subst f4_; subst f5_))
        refine hK.out _ _ ⟨(blk_cell BK178.out 0).trans rfl, (blk_cell BK178.out 1).trans rfl⟩ (fun hHeld => ?_)
        clear hK K
        refine norm_ (a' := ?_) ?_ ?_
        rotate_left
        ·show Act.put _ (some 15) _ = _
         simp only [Act.put, List.setIfInBounds_toArray, List.set_cons_zero, List.set_cons_succ, i64_w, i32_w]
         rfl
        refine pure_ (i := 6) (N := some 16) (v := ?_) (a' := ?_) #[true, true, true, true, true, true, true, false, false] rfl rfl (any_of HT_.out (by kernel_rfl)) (fun _ _ _ h => h) (Or.inl ⟨by rfl, ?_⟩) ?_ ?_
        rotate_left
        ·intro w'
         go_simp
         with_reducible rfl
        rotate_left
        ·simp only [Act.put, List.setIfInBounds_toArray, List.set_cons_zero, List.set_cons_succ, i64_w, i32_w]
         rfl
        refine one_ (i := 7) (N := some 6) #[true, true, true, true, true, true, true, true, false] rfl rfl (one_of HT_.out (by kernel_rfl)) (by decide) (fun K hK => ?_)
        refine box_step ?hg (N := 6) ?hd (cs := #[.slice none 0 0, .slice none 0 0]) (t := 26) ?hr ?_; (case hd => rfl); (case hg => rfl); (case hr => first | (go_simp; done) | (go_simp; rfl))
        intro gb188 hg w97 hbox hb
        replace HO184 := xq HO184 hb
        replace HO187 := xq HO187 hb
        have BK188 := Aside0.mk (hbox)
        have GW188 := xg HB hg
        have GE188 := xg HB hg
        replace HB := xp HB hb
        have NB178_188 := xl BK178 hg
        have NB188_178 := xh BK178 hg
        replace BK178 := xk BK178 hb
        have NB179_188 := xl BK179 hg
        have NB188_179 := xh BK179 hg
        replace BK179 := xk BK179 hb
        have NB180_188 := xl BK180 hg
        have NB188_180 := xh BK180 hg
        replace BK180 := xk BK180 hb
        clear hb hbox hg
        refine hK.out _ _ ⟨(blk_cell BK178.out 0).trans rfl, (blk_cell BK178.out 1).trans rfl⟩ (fun hHeld => ?_)
        clear hK K
        refine norm_ (a' := ?_) ?_ ?_
        rotate_left
        ·show Act.put _ (some 6) _ = _
         simp only [Act.put, List.setIfInBounds_toArray, List.set_cons_zero, List.set_cons_succ, i64_w, i32_w]
         rfl
        exact norm_ (by simp only [putAll, Act.put, List.setIfInBounds_toArray, List.set_cons_zero, List.set_cons_succ]) (hCont (.slice Ao96 t182.length co96, .slice Ao95 t185.length co95, gb188) _ ⟨hHeld, (xm HO184 (fun _ hk => hk.2)), (xm HO187 (fun _ hk => hk.2)), (xb BK178.out), (xb BK179.out), (xb BK180.out), (xb BK188.out), GW188.out, GE188.out, NB178_188.out, NB188_178.out, NB179_188.out, NB188_179.out, NB180_188.out, NB188_180.out, (xs HB.out)⟩)
       ·skip
        refine box_step ?hg (N := 6) ?hd (cs := #[.slice none 0 0, .slice none 0 0]) (t := 26) ?hr ?_; (case hd => rfl); (case hg => rfl); (case hr => first | (go_simp; done) | (go_simp; rfl))
        intro gb188 hg w94 hbox hb
        replace HO184 := xq HO184 hb
        have BK188 := Aside0.mk (hbox)
        have GW188 := xg HB hg
        have GE188 := xg HB hg
        replace HB := xp HB hb
        have NB178_188 := xl BK178 hg
        have NB188_178 := xh BK178 hg
        replace BK178 := xk BK178 hb
        have NB179_188 := xl BK179 hg
        have NB188_179 := xh BK179 hg
        replace BK179 := xk BK179 hb
        have NB180_188 := xl BK180 hg
        have NB188_180 := xh BK180 hg
        replace BK180 := xk BK180 hb
        clear hb hbox hg
        refine hK.out _ _ ⟨(blk_cell BK178.out 0).trans rfl, (blk_cell BK178.out 1).trans rfl⟩ (fun hHeld => ?_)
        clear hK K
        refine norm_ (a' := ?_) ?_ ?_
        rotate_left
        ·show Act.put _ (some 6) _ = _
         simp only [Act.put, List.setIfInBounds_toArray, List.set_cons_zero, List.set_cons_succ, i64_w, i32_w]
         rfl
        refine one_ (i := 5) (N := some 15) #[true, true, true, true, true, true, false, true, false] rfl rfl (one_of HT_.out (by kernel_rfl)) (by decide) (fun K hK => ?_)
        refine goes_ Try.func62 (by kernel_rfl) rfl #[.slice A0_1 l0_1.length c0_1] (by rfl) rfl rfl (by (try simp only [List.map_toArray, List.map_cons, List.map_nil]); first | done | rfl | (simp only [List.length_drop, List.length_take]; rfl)) ?_
        with_reducible refine (spec_l1Own.calls _ _ l0_1 t185 _ ?side1 ?side2 A5.out).mono ?_
        (case side1 => exact xd ((Kd.C_below HR0_1.out HB.out)))
        (case side2 => exact HC0_1.out)
        rintro e w95 ⟨v186, rfl, ho0, hb⟩
        refine ⟨_, rfl, ?_⟩
        have HO187 := Aside0.mk (Kd.R_lower (Kd.R_new' ho0 (Kd.R_lt (xr HO184.out))) (below_size (xs HB.out)))
        replace HO184 := Aside0.mk (Kd.R_elder' (xr HO184.out) (Kd.R_base ho0) hb)
        replace BK178 := xk BK178 hb
        replace BK179 := xk BK179 hb
        replace BK180 := xk BK180 hb
        replace BK188 := xk BK188 hb
        replace HB := xp HB hb
        (try clear hb)
        (try clear hb2)
        (try clear hk)
        (try clear hi)
        (try clear ho0)
        obtain ⟨Ao96, co96, eo96⟩ := Kd.R_slice HO187.out
        (first | subst eo96 | (injection eo96 with f1_ f2_ f3_; have f4_ := f1_.symm; have f5_ := f3_.symm; clear f1_ f2_ f3_; subst f4_; subst f5_))
        obtain ⟨Ao97, co97, eo97⟩ := Kd.R_slice HO184.out
        (first | subst eo97 | (injection eo97 with f1_ f2_ f3_; have f4_ := f1_.symm; have f5_ := f3_.symm; clear f1_ f2_ f3_; subst f4_; subst f5_))
        refine hK.out _ _ ⟨(blk_cell BK178.out 0).trans rfl, (blk_cell BK178.out 1).trans rfl⟩ (fun hHeld => ?_)
        clear hK K
        refine norm_ (a' := ?_) ?_ ?_
        rotate_left
        ·show Act.put _ (some 15) _ = _
         simp only [Act.put, List.setIfInBounds_toArray, List.set_cons_zero, List.set_cons_succ, i64_w, i32_w]
         rfl
        refine pure_ (i := 6) (N := some 16) (v := ?_) (a' := ?_) #[true, true, true, true, true, true, true, true, false] rfl rfl (any_of HT_.out (by kernel_rfl)) (fun _ _ _ h => h) (Or.inl ⟨by rfl, ?_⟩) ?_ ?_
        rotate_left
        ·intro w'
         go_simp
         with_reducible rfl
        rotate_left
        ·simp only [Act.put, List.setIfInBounds_toArray, List.set_cons_zero, List.set_cons_succ, i64_w, i32_w]
         rfl
        exact norm_ (by simp only [putAll, Act.put, List.setIfInBounds_toArray, List.set_cons_zero, List.set_cons_succ]) (hCont (.slice Ao97 t182.length co97, .slice Ao96 t185.length co96, gb188) _ ⟨hHeld, (xm HO184 (fun _ hk => hk.2)), (xm HO187 (fun _ hk => hk.2)), (xb BK178.out), (xb BK179.out), (xb BK180.out), (xb BK188.out), GW188.out, GE188.out, NB178_188.out, NB188_178.out, NB179_188.out, NB188_179.out, NB180_188.out, NB188_180.out, (xs HB.out)⟩)
      ·skip
       refine box_step ?hg (N := 6) ?hd (cs := #[.slice none 0 0, .slice none 0 0]) (t := 26) ?hr ?_; (case hd => rfl); (case hg => rfl); (case hr => first | (go_simp; done) | (go_simp; rfl))
       intro gb188 hg w93 hbox hb
       have BK188 := Aside0.mk (hbox)
       have GW188 := xg HB hg
       have GE188 := xg HB hg
       replace HB := xp HB hb
       have NB178_188 := xl BK178 hg
       have NB188_178 := xh BK178 hg
       replace BK178 := xk BK178 hb
       have NB179_188 := xl BK179 hg
       have NB188_179 := xh BK179 hg
       replace BK179 := xk BK179 hb
       have NB180_188 := xl BK180 hg
       have NB188_180 := xh BK180 hg
       replace BK180 := xk BK180 hb
       clear hb hbox hg
       refine hK.out _ _ ⟨(blk_cell BK178.out 0).trans rfl, (blk_cell BK178.out 1).trans rfl⟩ (fun hHeld => ?_)
       clear hK K
       refine norm_ (a' := ?_) ?_ ?_
       rotate_left
       ·show Act.put _ (some 6) _ = _
        simp only [Act.put, List.setIfInBounds_toArray, List.set_cons_zero, List.set_cons_succ, i64_w, i32_w]
        rfl
       refine one_ (i := 2) (N := some 12) #[true, true, true, true, true, false, false, true, false] rfl rfl (one_of HT_.out (by kernel_rfl)) (by decide) (fun K hK => ?_)
       refine goes_ Try.func62 (by kernel_rfl) rfl #[.slice A0_0 l0_0.length c0_0] (by rfl) rfl rfl (by (try simp only [List.map_toArray, List.map_cons, List.map_nil]); first | done | rfl | (simp only [List.length_drop, List.length_take]; rfl)) ?_
       with_reducible refine (spec_l1Own.calls _ _ l0_0 t182 _ ?side1 ?side2 A4.out).mono ?_
       (case side1 => exact xd ((Kd.C_below HR0_0.out HB.out)))
       (case side2 => exact HC0_0.out)
       rintro e w94 ⟨v183, rfl, ho0, hb⟩
       refine ⟨_, rfl, ?_⟩
       have HO184 := Aside0.mk (Kd.R_lower ho0 (below_size (xs HB.out)))
       replace BK178 := xk BK178 hb
       replace BK179 := xk BK179 hb
       replace BK180 := xk BK180 hb
       replace BK188 := xk BK188 hb
       replace HB := xp HB hb
       (try clear hb)
       (try clear hb2)
       (try clear hk)
       (try clear hi)
       (try clear ho0)
       refine hK.out _ _ ⟨(blk_cell BK178.out 0).trans rfl, (blk_cell BK178.out 1).trans rfl⟩ (fun hHeld => ?_)
       clear hK K
       refine norm_ (a' := ?_) ?_ ?_
       rotate_left
       ·show Act.put _ (some 12) _ = _
        simp only [Act.put, List.setIfInBounds_toArray, List.set_cons_zero, List.set_cons_succ, i64_w, i32_w]
        rfl
       refine one_ (i := 5) (N := some 15) #[true, true, true, true, true, true, false, true, false] rfl rfl (one_of HT_.out (by kernel_rfl)) (by decide) (fun K hK => ?_)
       refine goes_ Try.func62 (by kernel_rfl) rfl #[.slice A0_1 l0_1.length c0_1] (by rfl) rfl rfl (by (try simp only [List.map_toArray, List.map_cons, List.map_nil]); first | done | rfl | (simp only [List.length_drop, List.length_take]; rfl)) ?_
       with_reducible refine (spec_l1Own.calls _ _ l0_1 t185 _ ?side1 ?side2 A5.out).mono ?_
       (case side1 => exact xd ((Kd.C_below HR0_1.out HB.out)))
       (case side2 => exact HC0_1.out)
       rintro e w95 ⟨v186, rfl, ho0, hb⟩
       refine ⟨_, rfl, ?_⟩
       have HO187 := Aside0.mk (Kd.R_lower (Kd.R_new' ho0 (Kd.R_lt (xr HO184.out))) (below_size (xs HB.out)))
       replace HO184 := Aside0.mk (Kd.R_elder' (xr HO184.out) (Kd.R_base ho0) hb)
       replace BK178 := xk BK178 hb
       replace BK179 := xk BK179 hb
       replace BK180 := xk BK180 hb
       replace BK188 := xk BK188 hb
       replace HB := xp HB hb
       (try clear hb)
       (try clear hb2)
       (try clear hk)
       (try clear hi)
       (try clear ho0)
       obtain ⟨Ao96, co96, eo96⟩ := Kd.R_slice HO187.out
       (first | subst eo96 | (injection eo96 with f1_ f2_ f3_; have f4_ := f1_.symm; have f5_ := f3_.symm; clear f1_ f2_ f3_; subst f4_; subst f5_))
       obtain ⟨Ao97, co97, eo97⟩ := Kd.R_slice HO184.out
       (first | subst eo97 | (injection eo97 with f1_ f2_ f3_; have f4_ := f1_.symm; have f5_ := f3_.symm; clear f1_ f2_ f3_; subst f4_; subst f5_))
       refine hK.out _ _ ⟨(blk_cell BK178.out 0).trans rfl, (blk_cell BK178.out 1).trans rfl⟩ (fun hHeld => ?_)
       clear hK K
       refine norm_ (a' := ?_) ?_ ?_
       rotate_left
       ·show Act.put _ (some 15) _ = _
        simp only [Act.put, List.setIfInBounds_toArray, List.set_cons_zero, List.set_cons_succ, i64_w, i32_w]
        rfl
       refine pure_ (i := 6) (N := some 16) (v := ?_) (a' := ?_) #[true, true, true, true, true, true, true, true, false] rfl rfl (any_of HT_.out (by kernel_rfl)) (fun _ _ _ h => h) (Or.inl ⟨by rfl, ?_⟩) ?_ ?_
       rotate_left
       ·intro w'
        go_simp
        with_reducible rfl
       rotate_left
       ·simp only [Act.put, List.setIfInBounds_toArray, List.set_cons_zero, List.set_cons_succ, i64_w, i32_w]
        rfl
       exact norm_ (by simp only [putAll, Act.put, List.setIfInBounds_toArray, List.set_cons_zero, List.set_cons_succ]) (hCont (.slice Ao97 t182.length co97, .slice Ao96 t185.length co96, gb188) _ ⟨hHeld, (xm HO184 (fun _ hk => hk.2)), (xm HO187 (fun _ hk => hk.2)), (xb BK178.out), (xb BK179.out), (xb BK180.out), (xb BK188.out), GW188.out, GE188.out, NB178_188.out, NB188_178.out, NB179_188.out, NB188_179.out, NB180_188.out, NB188_180.out, (xs HB.out)⟩)
     rintro ⟨v183, v186, gb188⟩ w98 ⟨hS_, h0_, h1_, h2_, h3_, h4_, h5_, h6_, h7_, h8_, h9_, h10_, h11_, h12_, h13_, h14_⟩
     have n0_ : Aside0 (Kd.R (Kd.int .i64) 3 w98 w.heap.size (fun k_ => nV k_ v186) v183 t182) := ⟨h0_⟩
     have n1_ : Aside0 (Kd.R (Kd.int .i64) 3 w98 w.heap.size (fun k_ => nV k_ v183) v186 t185) := ⟨h1_⟩
     have n2_ : Aside0 (w98.heap[gb178]? = some (.cells #[.slice A0_0 l0_0.length c0_0, .slice A0_1 l0_1.length c0_1] 26 (0, 0))) := ⟨h2_⟩
     have n3_ : Aside0 (w98.heap[gb179]? = some (.cells #[.int .i64 a1_0, .int .i64 a1_1] 41 (0, 0))) := ⟨h3_⟩
     have n4_ : Aside0 (w98.heap[gb180]? = some (.cells #[.slice none 0 0, .slice none 0 0] 26 (0, 0))) := ⟨h4_⟩
     have n5_ : Aside0 (w98.heap[gb188]? = some (.cells #[.slice none 0 0, .slice none 0 0] 26 (0, 0))) := ⟨h5_⟩
     have n6_ : Aside0 (w.heap.size ≤ gb188) := ⟨h6_⟩
     have n7_ : Aside0 (w.heap.size ≤ gb188) := ⟨h7_⟩
     have n8_ : Aside0 (gb178 ≠ gb188) := ⟨h8_⟩
     have n9_ : Aside0 (gb188 ≠ gb178) := ⟨h9_⟩
     have n10_ : Aside0 (gb179 ≠ gb188) := ⟨h10_⟩
     have n11_ : Aside0 (gb188 ≠ gb179) := ⟨h11_⟩
     have n12_ : Aside0 (gb180 ≠ gb188) := ⟨h12_⟩
     have n13_ : Aside0 (gb188 ≠ gb180) := ⟨h13_⟩
     have n14_ : Aside0 (Below w.heap.size w w98) := ⟨h14_⟩
     clear BK178
     clear BK179
     clear BK180
     clear HB
     clear h0_ h1_ h2_ h3_ h4_ h5_ h6_ h7_ h8_ h9_ h10_ h11_ h12_ h13_ h14_
     have HO184 := n0_
     have HO187 := n1_
     have BK178 := n2_
     have BK179 := n3_
     have BK180 := n4_
     have BK188 := n5_
     have GW188 := n6_
     have GE188 := n7_
     have NB178_188 := n8_
     have NB188_178 := n9_
     have NB179_188 := n10_
     have NB188_179 := n11_
     have NB180_188 := n12_
     have NB188_180 := n13_
     have HB := n14_
     clear n0_ n1_ n2_ n3_ n4_ n5_ n6_ n7_ n8_ n9_ n10_ n11_ n12_ n13_ n14_
     have hHeld : w98.cell? ⟨gb178, 0, none⟩ = some (.slice A0_0 l0_0.length c0_0) ∧ w98.cell? ⟨gb178, 1, none⟩ = some (.slice A0_1 l0_1.length c0_1) := hS_
     obtain ⟨Ao99, co99, eo99⟩ := Kd.R_slice HO187.out
     (first | subst eo99 | (injection eo99 with f1_ f2_ f3_; have f4_ := f1_.symm; have f5_ := f3_.symm; clear f1_ f2_ f3_; subst f4_; subst f5_))
     obtain ⟨Ao100, co100, eo100⟩ := Kd.R_slice HO184.out
     (first | subst eo100 | (injection eo100 with f1_ f2_ f3_; have f4_ := f1_.symm; have f5_ := f3_.symm; clear f1_ f2_ f3_; subst f4_; subst f5_))
     refine norm_ (a' := ?_) ?_ ?_
     rotate_left
     ·simp only [putAll, Act.put, List.setIfInBounds_toArray, List.set_cons_zero, List.set_cons_succ]
      rfl
     refine one_ (i := 8) (N := none) #[true, true, true, true, true, true, true, true, true] rfl rfl (one_of HT_.out (by kernel_rfl)) (by decide) (fun K hK => ?_)
     have hs101 : w98.cell? ⟨gb188, 0, none⟩ = some (.slice none 0 0) := (blk_cell BK188.out 0).trans rfl
     have hfs101 := blk_frozen BK188.out 0
     have hns101_0 := NB178_188.out
     have hns101_1 := NB179_188.out
     have hns101_2 := NB180_188.out
     have hms101_0 := NB188_178.out
     have hms101_1 := NB188_179.out
     have hms101_2 := NB188_180.out
     have hs102 : w98.cell? ⟨gb188, 1, none⟩ = some (.slice none 0 0) := (blk_cell BK188.out 1).trans rfl
     have hfs102 := blk_frozen BK188.out 1
     have hns102_0 := NB178_188.out
     have hns102_1 := NB179_188.out
     have hns102_2 := NB180_188.out
     have hms102_0 := NB188_178.out
     have hms102_1 := NB188_179.out
     have hms102_2 := NB188_180.out
     refine skip_ (w1 := ?_) (by rfl) rfl ?_ ?_
     rotate_left
     ·go_simp
      rfl
     refine hK.out _ _ ⟨((cell_far (p := ⟨gb188, _, none⟩) NB178_188.out _).trans (((cell_far (p := ⟨gb188, _, none⟩) NB178_188.out _).trans (hHeld.1)))), ((cell_far (p := ⟨gb188, _, none⟩) NB178_188.out _).trans (((cell_far (p := ⟨gb188, _, none⟩) NB178_188.out _).trans (hHeld.2))))⟩ (fun hHeld => ?_)
     clear hK K
     refine done_ (done_of HT_.out (by kernel_rfl)) ?_
     have n0_ : Aside0 (Kd.R (Kd.int .i64) 3 ((w98.setCell ⟨gb188, 0, none⟩ (.slice Ao100 t182.length co100)).setCell ⟨gb188, 1, none⟩ (.slice Ao99 t185.length co99)) w.heap.size (fun k_ => nS k_ Ao99 t185.length co99) (.slice Ao100 t182.length co100) t182) := ⟨by (with_reducible repeat (first | apply Kd.R_alloc | apply Kd.R_drewN | apply Kd.R_drew)); exact Kd.R_mono (Kd.R_far (p := ⟨gb188, 1, none⟩) (Kd.R_far (p := ⟨gb188, 0, none⟩) (Kd.R_types HO184.out BK188.out (by decide)) (fun _ hk => hk.2) (.slice Ao100 t182.length co100)) (fun _ hk => hk.2) (.slice Ao99 t185.length co99)) (fun _ hk => hk.1)⟩
     have n1_ : Aside0 (Kd.R (Kd.int .i64) 3 ((w98.setCell ⟨gb188, 0, none⟩ (.slice Ao100 t182.length co100)).setCell ⟨gb188, 1, none⟩ (.slice Ao99 t185.length co99)) w.heap.size (fun k_ => nS k_ Ao100 t182.length co100) (.slice Ao99 t185.length co99) t185) := ⟨by (with_reducible repeat (first | apply Kd.R_alloc | apply Kd.R_drewN | apply Kd.R_drew)); exact Kd.R_mono (Kd.R_far (p := ⟨gb188, 1, none⟩) (Kd.R_far (p := ⟨gb188, 0, none⟩) (Kd.R_types HO187.out BK188.out (by decide)) (fun _ hk => hk.2) (.slice Ao100 t182.length co100)) (fun _ hk => hk.2) (.slice Ao99 t185.length co99)) (fun _ hk => hk.1)⟩
     have n2_ : Aside0 (((w98.setCell ⟨gb188, 0, none⟩ (.slice Ao100 t182.length co100)).setCell ⟨gb188, 1, none⟩ (.slice Ao99 t185.length co99)).heap[gb178]? = some (.cells #[.slice A0_0 l0_0.length c0_0, .slice A0_1 l0_1.length c0_1] 26 (0, 0))) := ⟨xff NB178_188.out NB178_188.out BK178.out⟩
     have n3_ : Aside0 (((w98.setCell ⟨gb188, 0, none⟩ (.slice Ao100 t182.length co100)).setCell ⟨gb188, 1, none⟩ (.slice Ao99 t185.length co99)).heap[gb179]? = some (.cells #[.int .i64 a1_0, .int .i64 a1_1] 41 (0, 0))) := ⟨xff NB179_188.out NB179_188.out BK179.out⟩
     have n4_ : Aside0 (((w98.setCell ⟨gb188, 0, none⟩ (.slice Ao100 t182.length co100)).setCell ⟨gb188, 1, none⟩ (.slice Ao99 t185.length co99)).heap[gb180]? = some (.cells #[.slice none 0 0, .slice none 0 0] 26 (0, 0))) := ⟨xff NB180_188.out NB180_188.out BK180.out⟩
     have n5_ : Aside0 (((w98.setCell ⟨gb188, 0, none⟩ (.slice Ao100 t182.length co100)).setCell ⟨gb188, 1, none⟩ (.slice Ao99 t185.length co99)).heap[gb188]? = some (.cells #[.slice Ao100 t182.length co100, .slice Ao99 t185.length co99] 26 (0, 0))) := ⟨by (with_reducible repeat (first | refine blk_drewN ?_ _ | refine blk_drew ?_ | refine blk_alloc ?_ _)); refine blk_put (cs := #[.slice Ao100 t182.length co100, .slice none 0 0]) ?_ 1 _ rfl; (with_reducible repeat (first | refine blk_drewN ?_ _ | refine blk_drew ?_ | refine blk_alloc ?_ _)); refine blk_put (cs := #[.slice none 0 0, .slice none 0 0]) ?_ 0 _ rfl; (with_reducible repeat (first | refine blk_drewN ?_ _ | refine blk_drew ?_ | refine blk_alloc ?_ _)); exact BK188.out⟩
     have n6_ : Aside0 (Below w.heap.size w ((w98.setCell ⟨gb188, 0, none⟩ (.slice Ao100 t182.length co100)).setCell ⟨gb188, 1, none⟩ (.slice Ao99 t185.length co99))) := ⟨xs HB.out⟩
     (try clear HO184)
     (try clear HO187)
     (try clear BK178)
     (try clear BK179)
     (try clear BK180)
     (try clear BK188)
     (try clear HB)
     generalize ((w98.setCell ⟨gb188, 0, none⟩ (.slice Ao100 t182.length co100)).setCell ⟨gb188, 1, none⟩ (.slice Ao99 t185.length co99)) = w103 at n0_ n1_ n2_ n3_ n4_ n5_ n6_ ⊢
     have HO184 := n0_
     have HO187 := n1_
     have BK178 := n2_
     have BK179 := n3_
     have BK180 := n4_
     have BK188 := n5_
     have HB := n6_
     clear n0_ n1_ n2_ n3_ n4_ n5_ n6_
     have hnb104 := NB179_188.out
     have hnc104 := NB188_179.out
     have hcz105_0 : w103.cell? ⟨gb179, 0, none⟩ = some (.int .i64 a1_0) := (blk_cell BK179.out 0).trans rfl
     have hcz105_1 : w103.cell? ⟨gb179, 1, none⟩ = some (.int .i64 a1_1) := (blk_cell BK179.out 1).trans rfl
     have hfz105_0 := blk_frozen BK179.out 0
     have hfz105_1 := blk_frozen BK179.out 1
     have hnb106 := NB188_178.out
     have hnc106 := NB178_188.out
     have hnb107 := NB188_180.out
     have hnc107 := NB180_188.out
     have hcz108_0 : w103.cell? ⟨gb188, 0, none⟩ = some (.slice Ao100 t182.length co100) := (blk_cell BK188.out 0).trans rfl
     have hcz108_1 : w103.cell? ⟨gb188, 1, none⟩ = some (.slice Ao99 t185.length co99) := (blk_cell BK188.out 1).trans rfl
     have hfz108_0 := blk_frozen BK188.out 0
     have hfz108_1 := blk_frozen BK188.out 1
     have p193 : 0 ≤ (a1_1 : Int) := of_decide_eq_true (by first | (with_reducible assumption) | assumption)
     have q193 : a1_1 < (t185.length : Int) := of_decide_eq_true (by first | (with_reducible assumption) | assumption)
     obtain ⟨ad193, e193, hx193_0⟩ := Kd.at_int (Kd.R_reads' HO187.out).2.2 a1_1 p193 q193
     cases e193
     replace p193 := eq_true p193
     replace q193 := eq_true q193
     have p82 : 0 ≤ (a1_1 : Int) := of_decide_eq_true (by first | (with_reducible assumption) | assumption)
     have q82 : (a1_1 : Int) < ((t185.length : Int) : Int) := of_decide_eq_true (by first | (with_reducible assumption) | assumption)
     obtain ⟨go82, co82, eo82, gb82, gl82, cl82, HG82⟩ := Kd.R_form HO187.out (by omega)
     (first | cases eo82 | (injection eo82 with ea_ en_ ec_; (first | subst ea_ | (injection ea_ with ea_; subst ea_)); subst ec_; clear en_))
     have GB82 := Aside0.mk gb82
     have GG82 := Aside0.mk HG82
     clear gb82 gl82 HG82
     (first | simp only [add_plain] at hx193_0 | skip)
     obtain ⟨hx82_0, hf82_0⟩ := Kd.R_celln 0 HO187.out (a1_1 : Int) p82 q82
     replace p82 := eq_true p82
     replace q82 := eq_true q82
     obtain ⟨hy109_, hz109_⟩ := Kd.R_celln 0 HO187.out (a1_1 : Int) (of_decide_eq_true (by first | (with_reducible assumption) | assumption)) (of_decide_eq_true (by first | (with_reducible assumption) | assumption))
     have HP109 := Kd.R_putg HO187.out (a1_1 : Int) (wrap64 ((rd t185 a1_1) + t181))
     try go_wp2_with (first | ((with_reducible refine gate_store (t := 3) (p := 40) rfl ?_); refine store_event (t := 3) (p := 40) (v := ?vo_w110) (w1 := (w103.setCell ⟨go82, (a1_1 : Int).toNat, none⟩ (.int .i64 (wrap64 ((rd t185 a1_1) + t181))))) ?hg ?ho ?hn ?hr ?_; (case ho => rfl); (case hg => rfl); (case hn => rfl); (case hr => first | (go_simp; done) | (go_simp; rfl)); intro w110 hw; have hg : w103.grownBy w110 (some go82) := (by rw [hw]; exact HP109.2); have hp_ : Kd.R (Kd.int .i64) 3 w110 w.heap.size (fun k_ => nS k_ Ao100 t182.length co100) (.slice (some ⟨go82, 0, none⟩) t185.length co99) y194 := (by rw [hw, Ny194.out]; exact HP109.1); clear HP109; replace BK178 := Aside0.mk (blk_grown (g := gb178) (o := .cells #[.slice A0_0 l0_0.length c0_0, .slice A0_1 l0_1.length c0_1] 26 (0, 0)) (xb BK178.out) hg (Kd.R_ne HO187.out BK178.out (by decide))); replace BK179 := Aside0.mk (blk_grown (g := gb179) (o := .cells #[.int .i64 a1_0, .int .i64 a1_1] 41 (0, 0)) (xb BK179.out) hg (Kd.R_ne HO187.out BK179.out (by decide))); replace BK180 := Aside0.mk (blk_grown (g := gb180) (o := .cells #[.slice none 0 0, .slice none 0 0] 26 (0, 0)) (xb BK180.out) hg (Kd.R_ne HO187.out BK180.out (by decide))); replace HO184 := Aside0.mk (Kd.R_after (v := (.slice (some ⟨go82, 0, none⟩) t185.length co99)) (v1 := (.slice (some ⟨go82, 0, none⟩) t185.length co99)) (ok := (fun _ => True)) (xm HO184 (fun _ hk => ⟨trivial, hk⟩)) hg (.inl rfl)); replace BK188 := Aside0.mk (blk_grown (g := gb188) (o := .cells #[.slice Ao100 t182.length co100, .slice (some ⟨go82, 0, none⟩) t185.length co99] 26 (0, 0)) (xb BK188.out) hg (Kd.R_ne HO187.out BK188.out (by decide))); replace HO187 := Aside0.mk (hp_); replace HB := Aside0.mk ((by rw [hw]; exact below_set (HB.out) GB82.out : Below w.heap.size w w110)); clear hg hw hp_; have hcz111_0 : w110.cell? ⟨gb188, 0, none⟩ = some (.slice Ao100 t182.length co100) := (blk_cell BK188.out 0).trans rfl; have hcz111_1 : w110.cell? ⟨gb188, 1, none⟩ = some (.slice (some ⟨go82, 0, none⟩) t185.length co99) := (blk_cell BK188.out 1).trans rfl; have hfz111_0 := blk_frozen BK188.out 0; have hfz111_1 := blk_frozen BK188.out 1; have hcz112_0 : w110.cell? ⟨gb180, 0, none⟩ = some (.slice none 0 0) := (blk_cell BK180.out 0).trans rfl; have hcz112_1 : w110.cell? ⟨gb180, 1, none⟩ = some (.slice none 0 0) := (blk_cell BK180.out 1).trans rfl; have hfz112_0 := blk_frozen BK180.out 0; have hfz112_1 := blk_frozen BK180.out 1))
     refine bodyPost_ret (results_cell_row rfl _ _ gb180 26 #[.slice Ao100 t182.length co100, .slice (some ⟨go82, 0, none⟩) t185.length co99] (0, 0) _ rfl (by (with_reducible repeat (first | refine blk_drewN ?_ _ | refine blk_drew ?_ | refine blk_alloc ?_ _)); refine blk_put (cs := #[.slice Ao100 t182.length co100, .slice none 0 0]) ?_ 1 _ rfl; (with_reducible repeat (first | refine blk_drewN ?_ _ | refine blk_drew ?_ | refine blk_alloc ?_ _)); refine blk_put (cs := #[.slice none 0 0, .slice none 0 0]) ?_ 0 _ rfl; (with_reducible repeat (first | refine blk_drewN ?_ _ | refine blk_drew ?_ | refine blk_alloc ?_ _)); exact BK180.out) Try.underlying26 rfl (by kernel_rfl)) rfl ?_
     exact ⟨_, _, by first | rfl | (simp [errW_none, errW_some] <;> rfl) | (simp [*, errW_none, errW_some] <;> rfl), by (with_reducible repeat (first | apply Kd.R_alloc | apply Kd.R_drewN | apply Kd.R_drew)); exact Kd.R_mono (Kd.R_far (p := ⟨gb180, 1, none⟩) (Kd.R_far (p := ⟨gb180, 0, none⟩) (Kd.R_types HO184.out BK180.out (by decide)) (fun _ hk => hk.2) (.slice Ao100 t182.length co100)) (fun _ hk => hk.2) (.slice (some ⟨go82, 0, none⟩) t185.length co99)) (fun _ hk => hk.1.2), by (with_reducible repeat (first | apply Kd.R_alloc | apply Kd.R_drewN | apply Kd.R_drew)); exact Kd.R_mono (Kd.R_far (p := ⟨gb180, 1, none⟩) (Kd.R_far (p := ⟨gb180, 0, none⟩) (Kd.R_types HO187.out BK180.out (by decide)) (fun _ hk => hk.2) (.slice Ao100 t182.length co100)) (fun _ hk => hk.2) (.slice (some ⟨go82, 0, none⟩) t185.length co99)) (fun _ hk => hk.1), by repeat (first | (with_reducible first | exact HB.out | apply below_alloc | apply pw_below_drewN | apply below_drew1 | refine below_set ?_ GE178.out | refine below_set ?_ GE179.out | refine below_set ?_ GE180.out | refine below_set ?_ GE188.out) | exact HB.out)⟩
    ·rw [if_neg c81] at H
     exact absurd H (by simp)
   ·rw [if_neg c80] at H
    exact absurd H (by simp)
  ·rw [if_neg c79] at H
   have c79b0 : decide (0 ≤ a1_1) = false := decide_eq_false c79
   clear c79
   simp only [Option.some.injEq, Prod.mk.injEq] at H
   obtain ⟨rfl, rfl⟩ := H
   go_enter Try.func76, Try.ntmps76
   try go_wp2_with (first | ((with_reducible refine gate_dst (N := 2) rfl ?_); refine box_event ?hg (N := 2) ?hd (cs := #[.slice A0_0 l0_0.length c0_0, .slice A0_1 l0_1.length c0_1]) (t := 26) ?hr ?_; (case hd => rfl); (case hg => rfl); (case hr => first | (go_simp; done) | (go_simp; rfl)); intro gb178 hg w113 hbox hb; have BK178 := Aside0.mk (hbox); have GW178 := xg HB hg; have GE178 := xg HB hg; replace HB := xp HB hb; clear hb hbox hg) | ((with_reducible refine gate_dst (N := 3) rfl ?_); refine box_event ?hg (N := 3) ?hd (cs := #[.int .i64 a1_0, .int .i64 a1_1]) (t := 41) ?hr ?_; (case hd => rfl); (case hg => rfl); (case hr => first | (go_simp; done) | (go_simp; rfl)); intro gb179 hg w114 hbox hb; have BK179 := Aside0.mk (hbox); have GW179 := xg HB hg; have GE179 := xg HB hg; replace HB := xp HB hb; have NB178_179 := xl BK178 hg; have NB179_178 := xh BK178 hg; replace BK178 := xk BK178 hb; clear hb hbox hg) | ((with_reducible refine gate_dst (N := 4) rfl ?_); refine box_event ?hg (N := 4) ?hd (cs := #[.slice none 0 0, .slice none 0 0]) (t := 26) ?hr ?_; (case hd => rfl); (case hg => rfl); (case hr => first | (go_simp; done) | (go_simp; rfl)); intro gb180 hg w115 hbox hb; have BK180 := Aside0.mk (hbox); have GW180 := xg HB hg; have GE180 := xg HB hg; replace HB := xp HB hb; have NB178_180 := xl BK178 hg; have NB180_178 := xh BK178 hg; replace BK178 := xk BK178 hb; have NB179_180 := xl BK179 hg; have NB180_179 := xh BK179 hg; replace BK179 := xk BK179 hb; clear hb hbox hg; have hnb116 := NB178_179.out; have hnc116 := NB179_178.out; have hnb117 := NB178_180.out; have hnc117 := NB180_178.out; have hcz118_0 : w115.cell? ⟨gb178, 0, none⟩ = some (.slice A0_0 l0_0.length c0_0) := (blk_cell BK178.out 0).trans rfl; have hcz118_1 : w115.cell? ⟨gb178, 1, none⟩ = some (.slice A0_1 l0_1.length c0_1) := (blk_cell BK178.out 1).trans rfl; have hfz118_0 := blk_frozen BK178.out 0; have hfz118_1 := blk_frozen BK178.out 1; have hnb119 := NB179_180.out; have hnc119 := NB180_179.out; have hcz120_0 : w115.cell? ⟨gb179, 0, none⟩ = some (.int .i64 a1_0) := (blk_cell BK179.out 0).trans rfl; have hcz120_1 : w115.cell? ⟨gb179, 1, none⟩ = some (.int .i64 a1_1) := (blk_cell BK179.out 1).trans rfl; have hfz120_0 := blk_frozen BK179.out 0; have hfz120_1 := blk_frozen BK179.out 1) | ((with_reducible refine gate_callee (f := 81) rfl ?_); refine goesL_ (some 9) rfl rfl Try.func81 (by kernel_rfl) rfl #[.agg #[.slice A0_0 l0_0.length c0_0, .slice A0_1 l0_1.length c0_1], .agg #[.int .i64 a1_0, .int .i64 a1_1]] rfl (by (try simp only [List.map_toArray, List.map_cons, List.map_nil]); first | done | rfl | (simp only [List.length_drop, List.length_take]; rfl)) ?_; (with_reducible refine (spec_veAmount.calls _ _ l0_0 _ _ l0_1 a1_0 a1_1 t181 _ ?side1 ?side2 ?side3 ?side4 A3.out).mono ?_); (case side1 => exact xd ((Kd.C_below HR0_0.out HB.out))); (case side2 => exact HC0_0.out); (case side3 => exact xd ((Kd.C_below HR0_1.out HB.out))); (case side4 => exact HC0_1.out); rintro e w121 ⟨rfl, hb⟩; refine ⟨_, rfl, ?_⟩; replace BK178 := xk BK178 hb; replace BK179 := xk BK179 hb; replace BK180 := xk BK180 hb; replace HB := xp HB hb; (try clear hb); (try clear hb2); (try clear hk); (try clear hi)))
   replace BK178 := xv BK178
   replace BK179 := xv BK179
   replace BK180 := xv BK180
   replace HB := Aside0.mk (below_drew1 HB.out)
   refine start_ (n := 9) (S := fun w' => w'.cell? ⟨gb178, 0, none⟩ = some (.slice A0_0 l0_0.length c0_0) ∧ w'.cell? ⟨gb178, 1, none⟩ = some (.slice A0_1 l0_1.length c0_1)) (ds := []) #[false, false, false, false, false, false, false, false, false] (by kernel_rfl) rfl rfl ⟨(blk_cell BK178.out 0).trans rfl, (blk_cell BK178.out 1).trans rfl⟩ (fun hHeld => ?_); refine with_tabW spec_veMake.tab2 spec_veMake.bits2 (fun HT_ HW_ => ?_)
   generalize w121.drew = w122 at BK178 BK179 BK180 HB hHeld ⊢
   refine pure_ (i := 0) (N := some 10) (v := ?_) (a' := ?_) #[true, false, false, false, false, false, false, false, false] rfl rfl (any_of HT_.out (by kernel_rfl)) (fun _ _ _ h => h) (Or.inl ⟨by rfl, ?_⟩) ?_ ?_
   rotate_left
   ·intro w'
    go_simp
    with_reducible rfl
   rotate_left
   ·simp only [Act.put, List.setIfInBounds_toArray, List.set_cons_zero, List.set_cons_succ, i64_w, i32_w]
    rfl
   refine pure_ (i := 3) (N := some 13) (v := ?_) (a' := ?_) #[true, false, false, true, false, false, false, false, false] rfl rfl (any_of HT_.out (by kernel_rfl)) (fun _ _ _ h => h) (Or.inl ⟨by rfl, ?_⟩) ?_ ?_
   rotate_left
   ·intro w'
    go_simp
    with_reducible rfl
   rotate_left
   ·simp only [Act.put, List.setIfInBounds_toArray, List.set_cons_zero, List.set_cons_succ, i64_w, i32_w]
    rfl
   refine take_ (i := 1) (N := some 11) (v := ?_) (a' := ?_) #[true, true, false, true, false, false, false, false, false] rfl rfl (take_ofW HT_.out HW_.out (by kernel_rfl)) (fun _ _ _ h => h) (Or.inl ⟨by rfl, ?_⟩) hHeld ?_ ?_
   rotate_left
   ·rintro w' ⟨s0, s1⟩
    go_simp
    with_reducible rfl
   rotate_left
   ·simp only [Act.put, List.setIfInBounds_toArray, List.set_cons_zero, List.set_cons_succ, i64_w, i32_w]
    rfl
   refine take_ (i := 4) (N := some 14) (v := ?_) (a' := ?_) #[true, true, false, true, true, false, false, false, false] rfl rfl (take_ofW HT_.out HW_.out (by kernel_rfl)) (fun _ _ _ h => h) (Or.inl ⟨by rfl, ?_⟩) hHeld ?_ ?_
   rotate_left
   ·rintro w' ⟨s0, s1⟩
    go_simp
    with_reducible rfl
   rotate_left
   ·simp only [Act.put, List.setIfInBounds_toArray, List.set_cons_zero, List.set_cons_succ, i64_w, i32_w]
    rfl
   refine join_ (σ := Value × Value × Nat) 1 #[true, true, true, true, true, true, true, true, false] (fun s_ => [(12, s_.1), (15, s_.2.1), (6, .pointer (some ⟨s_.2.2, 0, none⟩)), (16, .agg #[s_.1, s_.2.1])]) (fun s_ w' => (w'.cell? ⟨gb178, 0, none⟩ = some (.slice A0_0 l0_0.length c0_0) ∧ w'.cell? ⟨gb178, 1, none⟩ = some (.slice A0_1 l0_1.length c0_1)) ∧ (Kd.R (Kd.int .i64) 3 w' w.heap.size (fun k_ => some k_ ≠ (s_.2.1 : Value).ownBlock) s_.1 t182) ∧ (Kd.R (Kd.int .i64) 3 w' w.heap.size (fun k_ => some k_ ≠ (s_.1 : Value).ownBlock) s_.2.1 t185) ∧ (w'.heap[gb178]? = some (.cells #[.slice A0_0 l0_0.length c0_0, .slice A0_1 l0_1.length c0_1] 26 (0, 0))) ∧ (w'.heap[gb179]? = some (.cells #[.int .i64 a1_0, .int .i64 a1_1] 41 (0, 0))) ∧ (w'.heap[gb180]? = some (.cells #[.slice none 0 0, .slice none 0 0] 26 (0, 0))) ∧ (w'.heap[s_.2.2]? = some (.cells #[.slice none 0 0, .slice none 0 0] 26 (0, 0))) ∧ (w.heap.size ≤ s_.2.2) ∧ (w.heap.size ≤ s_.2.2) ∧ (gb178 ≠ s_.2.2) ∧ (s_.2.2 ≠ gb178) ∧ (gb179 ≠ s_.2.2) ∧ (s_.2.2 ≠ gb179) ∧ (gb180 ≠ s_.2.2) ∧ (s_.2.2 ≠ gb180) ∧ (Below w.heap.size w w')) ?_ ?_
   rotate_left
   ·intro hCont
    refine two_ (i := 2) (j := 7) (Ni := some 12) (Nj := some 6) #[true, true, true, true, true, false, false, false, false] #[true, true, false, true, true, false, false, true, false] rfl rfl rfl rfl (two_of HT_.out (by kernel_rfl)) (by decide) (by decide) (fun K hK => ?_) (fun K hK => ?_)
    ·skip
     refine goes_ Try.func62 (by kernel_rfl) rfl #[.slice A0_0 l0_0.length c0_0] (by rfl) rfl rfl (by (try simp only [List.map_toArray, List.map_cons, List.map_nil]); first | done | rfl | (simp only [List.length_drop, List.length_take]; rfl)) ?_
     with_reducible refine (spec_l1Own.calls _ _ l0_0 t182 _ ?side1 ?side2 A4.out).mono ?_
     (case side1 => exact xd ((Kd.C_below HR0_0.out HB.out)))
     (case side2 => exact HC0_0.out)
     rintro e w123 ⟨v183, rfl, ho0, hb⟩
     refine ⟨_, rfl, ?_⟩
     have HO184 := Aside0.mk (Kd.R_lower ho0 (below_size (xs HB.out)))
     replace BK178 := xk BK178 hb
     replace BK179 := xk BK179 hb
     replace BK180 := xk BK180 hb
     replace HB := xp HB hb
     (try clear hb)
     (try clear hb2)
     (try clear hk)
     (try clear hi)
     (try clear ho0)
     refine hK.out _ _ ⟨(blk_cell BK178.out 0).trans rfl, (blk_cell BK178.out 1).trans rfl⟩ (fun hHeld => ?_)
     clear hK K
     refine norm_ (a' := ?_) ?_ ?_
     rotate_left
     ·show Act.put _ (some 12) _ = _
      simp only [Act.put, List.setIfInBounds_toArray, List.set_cons_zero, List.set_cons_succ, i64_w, i32_w]
      rfl
     refine two_ (i := 5) (j := 7) (Ni := some 15) (Nj := some 6) #[true, true, true, true, true, true, false, false, false] #[true, true, true, true, true, false, false, true, false] rfl rfl rfl rfl (two_of HT_.out (by kernel_rfl)) (by decide) (by decide) (fun K hK => ?_) (fun K hK => ?_)
     ·skip
      refine goes_ Try.func62 (by kernel_rfl) rfl #[.slice A0_1 l0_1.length c0_1] (by rfl) rfl rfl (by (try simp only [List.map_toArray, List.map_cons, List.map_nil]); first | done | rfl | (simp only [List.length_drop, List.length_take]; rfl)) ?_
      with_reducible refine (spec_l1Own.calls _ _ l0_1 t185 _ ?side1 ?side2 A5.out).mono ?_
      (case side1 => exact xd ((Kd.C_below HR0_1.out HB.out)))
      (case side2 => exact HC0_1.out)
      rintro e w124 ⟨v186, rfl, ho0, hb⟩
      refine ⟨_, rfl, ?_⟩
      have HO187 := Aside0.mk (Kd.R_lower (Kd.R_new' ho0 (Kd.R_lt (xr HO184.out))) (below_size (xs HB.out)))
      replace HO184 := Aside0.mk (Kd.R_elder' (xr HO184.out) (Kd.R_base ho0) hb)
      replace BK178 := xk BK178 hb
      replace BK179 := xk BK179 hb
      replace BK180 := xk BK180 hb
      replace HB := xp HB hb
      (try clear hb)
      (try clear hb2)
      (try clear hk)
      (try clear hi)
      (try clear ho0)
      obtain ⟨Ao125, co125, eo125⟩ := Kd.R_slice HO187.out
      (first | subst eo125 | (injection eo125 with f1_ f2_ f3_; have f4_ := f1_.symm; have f5_ := f3_.symm; clear f1_ f2_ f3_; subst f4_; subst f5_))
      obtain ⟨Ao126, co126, eo126⟩ := Kd.R_slice HO184.out
      (first | subst eo126 | (injection eo126 with f1_ f2_ f3_; have f4_ := f1_.symm; have f5_ := f3_.symm; clear f1_ f2_ f3_; subst f4_; subst f5_))
      refine hK.out _ _ ⟨(blk_cell BK178.out 0).trans rfl, (blk_cell BK178.out 1).trans rfl⟩ (fun hHeld => ?_)
      clear hK K
      refine norm_ (a' := ?_) ?_ ?_
      rotate_left
      ·show Act.put _ (some 15) _ = _
       simp only [Act.put, List.setIfInBounds_toArray, List.set_cons_zero, List.set_cons_succ, i64_w, i32_w]
       rfl
      refine pure_ (i := 6) (N := some 16) (v := ?_) (a' := ?_) #[true, true, true, true, true, true, true, false, false] rfl rfl (any_of HT_.out (by kernel_rfl)) (fun _ _ _ h => h) (Or.inl ⟨by rfl, ?_⟩) ?_ ?_
      rotate_left
      ·intro w'
       go_simp
       with_reducible rfl
      rotate_left
      ·simp only [Act.put, List.setIfInBounds_toArray, List.set_cons_zero, List.set_cons_succ, i64_w, i32_w]
       rfl
      refine one_ (i := 7) (N := some 6) #[true, true, true, true, true, true, true, true, false] rfl rfl (one_of HT_.out (by kernel_rfl)) (by decide) (fun K hK => ?_)
      refine box_step ?hg (N := 6) ?hd (cs := #[.slice none 0 0, .slice none 0 0]) (t := 26) ?hr ?_; (case hd => rfl); (case hg => rfl); (case hr => first | (go_simp; done) | (go_simp; rfl))
      intro gb188 hg w127 hbox hb
      replace HO184 := xq HO184 hb
      replace HO187 := xq HO187 hb
      have BK188 := Aside0.mk (hbox)
      have GW188 := xg HB hg
      have GE188 := xg HB hg
      replace HB := xp HB hb
      have NB178_188 := xl BK178 hg
      have NB188_178 := xh BK178 hg
      replace BK178 := xk BK178 hb
      have NB179_188 := xl BK179 hg
      have NB188_179 := xh BK179 hg
      replace BK179 := xk BK179 hb
      have NB180_188 := xl BK180 hg
      have NB188_180 := xh BK180 hg
      replace BK180 := xk BK180 hb
      clear hb hbox hg
      refine hK.out _ _ ⟨(blk_cell BK178.out 0).trans rfl, (blk_cell BK178.out 1).trans rfl⟩ (fun hHeld => ?_)
      clear hK K
      refine norm_ (a' := ?_) ?_ ?_
      rotate_left
      ·show Act.put _ (some 6) _ = _
       simp only [Act.put, List.setIfInBounds_toArray, List.set_cons_zero, List.set_cons_succ, i64_w, i32_w]
       rfl
      exact norm_ (by simp only [putAll, Act.put, List.setIfInBounds_toArray, List.set_cons_zero, List.set_cons_succ]) (hCont (.slice Ao126 t182.length co126, .slice Ao125 t185.length co125, gb188) _ ⟨hHeld, (xm HO184 (fun _ hk => hk.2)), (xm HO187 (fun _ hk => hk.2)), (xb BK178.out), (xb BK179.out), (xb BK180.out), (xb BK188.out), GW188.out, GE188.out, NB178_188.out, NB188_178.out, NB179_188.out, NB188_179.out, NB180_188.out, NB188_180.out, (xs HB.out)⟩)
     ·skip
      refine box_step ?hg (N := 6) ?hd (cs := #[.slice none 0 0, .slice none 0 0]) (t := 26) ?hr ?_; (case hd => rfl); (case hg => rfl); (case hr => first | (go_simp; done) | (go_simp; rfl))
      intro gb188 hg w124 hbox hb
      replace HO184 := xq HO184 hb
      have BK188 := Aside0.mk (hbox)
      have GW188 := xg HB hg
      have GE188 := xg HB hg
      replace HB := xp HB hb
      have NB178_188 := xl BK178 hg
      have NB188_178 := xh BK178 hg
      replace BK178 := xk BK178 hb
      have NB179_188 := xl BK179 hg
      have NB188_179 := xh BK179 hg
      replace BK179 := xk BK179 hb
      have NB180_188 := xl BK180 hg
      have NB188_180 := xh BK180 hg
      replace BK180 := xk BK180 hb
      clear hb hbox hg
      refine hK.out _ _ ⟨(blk_cell BK178.out 0).trans rfl, (blk_cell BK178.out 1).trans rfl⟩ (fun hHeld => ?_)
      clear hK K
      refine norm_ (a' := ?_) ?_ ?_
      rotate_left
      ·show Act.put _ (some 6) _ = _
       simp only [Act.put, List.setIfInBounds_toArray, List.set_cons_zero, List.set_cons_succ, i64_w, i32_w]
       rfl
      refine one_ (i := 5) (N := some 15) #[true, true, true, true, true, true, false, true, false] rfl rfl (one_of HT_.out (by kernel_rfl)) (by decide) (fun K hK => ?_)
      refine goes_ Try.func62 (by kernel_rfl) rfl #[.slice A0_1 l0_1.length c0_1] (by rfl) rfl rfl (by (try simp only [List.map_toArray, List.map_cons, List.map_nil]); first | done | rfl | (simp only [List.length_drop, List.length_take]; rfl)) ?_
      with_reducible refine (spec_l1Own.calls _ _ l0_1 t185 _ ?side1 ?side2 A5.out).mono ?_
      (case side1 => exact xd ((Kd.C_below HR0_1.out HB.out)))
      (case side2 => exact HC0_1.out)
      rintro e w125 ⟨v186, rfl, ho0, hb⟩
      refine ⟨_, rfl, ?_⟩
      have HO187 := Aside0.mk (Kd.R_lower (Kd.R_new' ho0 (Kd.R_lt (xr HO184.out))) (below_size (xs HB.out)))
      replace HO184 := Aside0.mk (Kd.R_elder' (xr HO184.out) (Kd.R_base ho0) hb)
      replace BK178 := xk BK178 hb
      replace BK179 := xk BK179 hb
      replace BK180 := xk BK180 hb
      replace BK188 := xk BK188 hb
      replace HB := xp HB hb
      (try clear hb)
      (try clear hb2)
      (try clear hk)
      (try clear hi)
      (try clear ho0)
      obtain ⟨Ao126, co126, eo126⟩ := Kd.R_slice HO187.out
      (first | subst eo126 | (injection eo126 with f1_ f2_ f3_; have f4_ := f1_.symm; have f5_ := f3_.symm; clear f1_ f2_ f3_; subst f4_; subst f5_))
      obtain ⟨Ao127, co127, eo127⟩ := Kd.R_slice HO184.out
      (first | subst eo127 | (injection eo127 with f1_ f2_ f3_; have f4_ := f1_.symm; have f5_ := f3_.symm; clear f1_ f2_ f3_; subst f4_; subst f5_))
      refine hK.out _ _ ⟨(blk_cell BK178.out 0).trans rfl, (blk_cell BK178.out 1).trans rfl⟩ (fun hHeld => ?_)
      clear hK K
      refine norm_ (a' := ?_) ?_ ?_
      rotate_left
      ·show Act.put _ (some 15) _ = _
       simp only [Act.put, List.setIfInBounds_toArray, List.set_cons_zero, List.set_cons_succ, i64_w, i32_w]
       rfl
      refine pure_ (i := 6) (N := some 16) (v := ?_) (a' := ?_) #[true, true, true, true, true, true, true, true, false] rfl rfl (any_of HT_.out (by kernel_rfl)) (fun _ _ _ h => h) (Or.inl ⟨by rfl, ?_⟩) ?_ ?_
      rotate_left
      ·intro w'
       go_simp
       with_reducible rfl
      rotate_left
      ·simp only [Act.put, List.setIfInBounds_toArray, List.set_cons_zero, List.set_cons_succ, i64_w, i32_w]
       rfl
      exact norm_ (by simp only [putAll, Act.put, List.setIfInBounds_toArray, List.set_cons_zero, List.set_cons_succ]) (hCont (.slice Ao127 t182.length co127, .slice Ao126 t185.length co126, gb188) _ ⟨hHeld, (xm HO184 (fun _ hk => hk.2)), (xm HO187 (fun _ hk => hk.2)), (xb BK178.out), (xb BK179.out), (xb BK180.out), (xb BK188.out), GW188.out, GE188.out, NB178_188.out, NB188_178.out, NB179_188.out, NB188_179.out, NB180_188.out, NB188_180.out, (xs HB.out)⟩)
    ·skip
     refine box_step ?hg (N := 6) ?hd (cs := #[.slice none 0 0, .slice none 0 0]) (t := 26) ?hr ?_; (case hd => rfl); (case hg => rfl); (case hr => first | (go_simp; done) | (go_simp; rfl))
     intro gb188 hg w123 hbox hb
     have BK188 := Aside0.mk (hbox)
     have GW188 := xg HB hg
     have GE188 := xg HB hg
     replace HB := xp HB hb
     have NB178_188 := xl BK178 hg
     have NB188_178 := xh BK178 hg
     replace BK178 := xk BK178 hb
     have NB179_188 := xl BK179 hg
     have NB188_179 := xh BK179 hg
     replace BK179 := xk BK179 hb
     have NB180_188 := xl BK180 hg
     have NB188_180 := xh BK180 hg
     replace BK180 := xk BK180 hb
     clear hb hbox hg
     refine hK.out _ _ ⟨(blk_cell BK178.out 0).trans rfl, (blk_cell BK178.out 1).trans rfl⟩ (fun hHeld => ?_)
     clear hK K
     refine norm_ (a' := ?_) ?_ ?_
     rotate_left
     ·show Act.put _ (some 6) _ = _
      simp only [Act.put, List.setIfInBounds_toArray, List.set_cons_zero, List.set_cons_succ, i64_w, i32_w]
      rfl
     refine one_ (i := 2) (N := some 12) #[true, true, true, true, true, false, false, true, false] rfl rfl (one_of HT_.out (by kernel_rfl)) (by decide) (fun K hK => ?_)
     refine goes_ Try.func62 (by kernel_rfl) rfl #[.slice A0_0 l0_0.length c0_0] (by rfl) rfl rfl (by (try simp only [List.map_toArray, List.map_cons, List.map_nil]); first | done | rfl | (simp only [List.length_drop, List.length_take]; rfl)) ?_
     with_reducible refine (spec_l1Own.calls _ _ l0_0 t182 _ ?side1 ?side2 A4.out).mono ?_
     (case side1 => exact xd ((Kd.C_below HR0_0.out HB.out)))
     (case side2 => exact HC0_0.out)
     rintro e w124 ⟨v183, rfl, ho0, hb⟩
     refine ⟨_, rfl, ?_⟩
     have HO184 := Aside0.mk (Kd.R_lower ho0 (below_size (xs HB.out)))
     replace BK178 := xk BK178 hb
     replace BK179 := xk BK179 hb
     replace BK180 := xk BK180 hb
     replace BK188 := xk BK188 hb
     replace HB := xp HB hb
     (try clear hb)
     (try clear hb2)
     (try clear hk)
     (try clear hi)
     (try clear ho0)
     refine hK.out _ _ ⟨(blk_cell BK178.out 0).trans rfl, (blk_cell BK178.out 1).trans rfl⟩ (fun hHeld => ?_)
     clear hK K
     refine norm_ (a' := ?_) ?_ ?_
     rotate_left
     ·show Act.put _ (some 12) _ = _
      simp only [Act.put, List.setIfInBounds_toArray, List.set_cons_zero, List.set_cons_succ, i64_w, i32_w]
      rfl
     refine one_ (i := 5) (N := some 15) #[true, true, true, true, true, true, false, true, false] rfl rfl (one_of HT_.out (by kernel_rfl)) (by decide) (fun K hK => ?_)
     refine goes_ Try.func62 (by kernel_rfl) rfl #[.slice A0_1 l0_1.length c0_1] (by rfl) rfl rfl (by (try simp only [List.map_toArray, List.map_cons, List.map_nil]); first | done | rfl | (simp only [List.length_drop, List.length_take]; rfl)) ?_
     with_reducible refine (spec_l1Own.calls _ _ l0_1 t185 _ ?side1 ?side2 A5.out).mono ?_
     (case side1 => exact xd ((Kd.C_below HR0_1.out HB.out)))
     (case side2 => exact HC0_1.out)
     rintro e w125 ⟨v186, rfl, ho0, hb⟩
     refine ⟨_, rfl, ?_⟩
     have HO187 := Aside0.mk (Kd.R_lower (Kd.R_new' ho0 (Kd.R_lt (xr HO184.out))) (below_size (xs HB.out)))
     replace HO184 := Aside0.mk (Kd.R_elder' (xr HO184.out) (Kd.R_base ho0) hb)
     replace BK178 := xk BK178 hb
     replace BK179 := xk BK179 hb
     replace BK180 := xk BK180 hb
     replace BK188 := xk BK188 hb
     replace HB := xp HB hb
     (try clear hb)
     (try clear hb2)
     (try clear hk)
     (try clear hi)
     (try clear ho0)
     obtain ⟨Ao126, co126, eo126⟩ := Kd.R_slice HO187.out
     (first | subst eo126 | (injection eo126 with f1_ f2_ f3_; have f4_ := f1_.symm; have f5_ := f3_.symm; clear f1_ f2_ f3_; subst f4_; subst f5_))
     obtain ⟨Ao127, co127, eo127⟩ := Kd.R_slice HO184.out
     (first | subst eo127 | (injection eo127 with f1_ f2_ f3_; have f4_ := f1_.symm; have f5_ := f3_.symm; clear f1_ f2_ f3_; subst f4_; subst f5_))
     refine hK.out _ _ ⟨(blk_cell BK178.out 0).trans rfl, (blk_cell BK178.out 1).trans rfl⟩ (fun hHeld => ?_)
     clear hK K
     refine norm_ (a' := ?_) ?_ ?_
     rotate_left
     ·show Act.put _ (some 15) _ = _
      simp only [Act.put, List.setIfInBounds_toArray, List.set_cons_zero, List.set_cons_succ, i64_w, i32_w]
      rfl
     refine pure_ (i := 6) (N := some 16) (v := ?_) (a' := ?_) #[true, true, true, true, true, true, true, true, false] rfl rfl (any_of HT_.out (by kernel_rfl)) (fun _ _ _ h => h) (Or.inl ⟨by rfl, ?_⟩) ?_ ?_
     rotate_left
     ·intro w'
      go_simp
      with_reducible rfl
     rotate_left
     ·simp only [Act.put, List.setIfInBounds_toArray, List.set_cons_zero, List.set_cons_succ, i64_w, i32_w]
      rfl
     exact norm_ (by simp only [putAll, Act.put, List.setIfInBounds_toArray, List.set_cons_zero, List.set_cons_succ]) (hCont (.slice Ao127 t182.length co127, .slice Ao126 t185.length co126, gb188) _ ⟨hHeld, (xm HO184 (fun _ hk => hk.2)), (xm HO187 (fun _ hk => hk.2)), (xb BK178.out), (xb BK179.out), (xb BK180.out), (xb BK188.out), GW188.out, GE188.out, NB178_188.out, NB188_178.out, NB179_188.out, NB188_179.out, NB180_188.out, NB188_180.out, (xs HB.out)⟩)
   rintro ⟨v183, v186, gb188⟩ w128 ⟨hS_, h0_, h1_, h2_, h3_, h4_, h5_, h6_, h7_, h8_, h9_, h10_, h11_, h12_, h13_, h14_⟩
   have n0_ : Aside0 (Kd.R (Kd.int .i64) 3 w128 w.heap.size (fun k_ => nV k_ v186) v183 t182) := ⟨h0_⟩
   have n1_ : Aside0 (Kd.R (Kd.int .i64) 3 w128 w.heap.size (fun k_ => nV k_ v183) v186 t185) := ⟨h1_⟩
   have n2_ : Aside0 (w128.heap[gb178]? = some (.cells #[.slice A0_0 l0_0.length c0_0, .slice A0_1 l0_1.length c0_1] 26 (0, 0))) := ⟨h2_⟩
   have n3_ : Aside0 (w128.heap[gb179]? = some (.cells #[.int .i64 a1_0, .int .i64 a1_1] 41 (0, 0))) := ⟨h3_⟩
   have n4_ : Aside0 (w128.heap[gb180]? = some (.cells #[.slice none 0 0, .slice none 0 0] 26 (0, 0))) := ⟨h4_⟩
   have n5_ : Aside0 (w128.heap[gb188]? = some (.cells #[.slice none 0 0, .slice none 0 0] 26 (0, 0))) := ⟨h5_⟩
   have n6_ : Aside0 (w.heap.size ≤ gb188) := ⟨h6_⟩
   have n7_ : Aside0 (w.heap.size ≤ gb188) := ⟨h7_⟩
   have n8_ : Aside0 (gb178 ≠ gb188) := ⟨h8_⟩
   have n9_ : Aside0 (gb188 ≠ gb178) := ⟨h9_⟩
   have n10_ : Aside0 (gb179 ≠ gb188) := ⟨h10_⟩
   have n11_ : Aside0 (gb188 ≠ gb179) := ⟨h11_⟩
   have n12_ : Aside0 (gb180 ≠ gb188) := ⟨h12_⟩
   have n13_ : Aside0 (gb188 ≠ gb180) := ⟨h13_⟩
   have n14_ : Aside0 (Below w.heap.size w w128) := ⟨h14_⟩
   clear BK178
   clear BK179
   clear BK180
   clear HB
   clear h0_ h1_ h2_ h3_ h4_ h5_ h6_ h7_ h8_ h9_ h10_ h11_ h12_ h13_ h14_
   have HO184 := n0_
   have HO187 := n1_
   have BK178 := n2_
   have BK179 := n3_
   have BK180 := n4_
   have BK188 := n5_
   have GW188 := n6_
   have GE188 := n7_
   have NB178_188 := n8_
   have NB188_178 := n9_
   have NB179_188 := n10_
   have NB188_179 := n11_
   have NB180_188 := n12_
   have NB188_180 := n13_
   have HB := n14_
   clear n0_ n1_ n2_ n3_ n4_ n5_ n6_ n7_ n8_ n9_ n10_ n11_ n12_ n13_ n14_
   have hHeld : w128.cell? ⟨gb178, 0, none⟩ = some (.slice A0_0 l0_0.length c0_0) ∧ w128.cell? ⟨gb178, 1, none⟩ = some (.slice A0_1 l0_1.length c0_1) := hS_
   obtain ⟨Ao129, co129, eo129⟩ := Kd.R_slice HO187.out
   (first | subst eo129 | (injection eo129 with f1_ f2_ f3_; have f4_ := f1_.symm; have f5_ := f3_.symm; clear f1_ f2_ f3_; subst f4_; subst f5_))
   obtain ⟨Ao130, co130, eo130⟩ := Kd.R_slice HO184.out
   (first | subst eo130 | (injection eo130 with f1_ f2_ f3_; have f4_ := f1_.symm; have f5_ := f3_.symm; clear f1_ f2_ f3_; subst f4_; subst f5_))
   refine norm_ (a' := ?_) ?_ ?_
   rotate_left
   ·simp only [putAll, Act.put, List.setIfInBounds_toArray, List.set_cons_zero, List.set_cons_succ]
    rfl
   refine one_ (i := 8) (N := none) #[true, true, true, true, true, true, true, true, true] rfl rfl (one_of HT_.out (by kernel_rfl)) (by decide) (fun K hK => ?_)
   have hs131 : w128.cell? ⟨gb188, 0, none⟩ = some (.slice none 0 0) := (blk_cell BK188.out 0).trans rfl
   have hfs131 := blk_frozen BK188.out 0
   have hns131_0 := NB178_188.out
   have hns131_1 := NB179_188.out
   have hns131_2 := NB180_188.out
   have hms131_0 := NB188_178.out
   have hms131_1 := NB188_179.out
   have hms131_2 := NB188_180.out
   have hs132 : w128.cell? ⟨gb188, 1, none⟩ = some (.slice none 0 0) := (blk_cell BK188.out 1).trans rfl
   have hfs132 := blk_frozen BK188.out 1
   have hns132_0 := NB178_188.out
   have hns132_1 := NB179_188.out
   have hns132_2 := NB180_188.out
   have hms132_0 := NB188_178.out
   have hms132_1 := NB188_179.out
   have hms132_2 := NB188_180.out
   refine skip_ (w1 := ?_) (by rfl) rfl ?_ ?_
   rotate_left
   ·go_simp
    rfl
   refine hK.out _ _ ⟨((cell_far (p := ⟨gb188, _, none⟩) NB178_188.out _).trans (((cell_far (p := ⟨gb188, _, none⟩) NB178_188.out _).trans (hHeld.1)))), ((cell_far (p := ⟨gb188, _, none⟩) NB178_188.out _).trans (((cell_far (p := ⟨gb188, _, none⟩) NB178_188.out _).trans (hHeld.2))))⟩ (fun hHeld => ?_)
   clear hK K
   refine done_ (done_of HT_.out (by kernel_rfl)) ?_
   have hnb133 := NB179_188.out
   have hnc133 := NB188_179.out
   have hcz134_0 : w128.cell? ⟨gb179, 0, none⟩ = some (.int .i64 a1_0) := (blk_cell BK179.out 0).trans rfl
   have hcz134_1 : w128.cell? ⟨gb179, 1, none⟩ = some (.int .i64 a1_1) := (blk_cell BK179.out 1).trans rfl
   have hfz134_0 := blk_frozen BK179.out 0
   have hfz134_1 := blk_frozen BK179.out 1
   have hnb135 := NB188_178.out
   have hnc135 := NB178_188.out
   have hnb136 := NB188_180.out
   have hnc136 := NB180_188.out
   have hcz137_0 : w128.cell? ⟨gb188, 0, none⟩ = some (.slice none 0 0) := (blk_cell BK188.out 0).trans rfl
   have hcz137_1 : w128.cell? ⟨gb188, 1, none⟩ = some (.slice none 0 0) := (blk_cell BK188.out 1).trans rfl
   have hfz137_0 := blk_frozen BK188.out 0
   have hfz137_1 := blk_frozen BK188.out 1
   have hcz138_0 : w128.cell? ⟨gb180, 0, none⟩ = some (.slice none 0 0) := (blk_cell BK180.out 0).trans rfl
   have hcz138_1 : w128.cell? ⟨gb180, 1, none⟩ = some (.slice none 0 0) := (blk_cell BK180.out 1).trans rfl
   have hfz138_0 := blk_frozen BK180.out 0
   have hfz138_1 := blk_frozen BK180.out 1
   try go_wp2
   refine bodyPost_ret (results_cell_row rfl _ _ gb180 26 #[.slice Ao130 t182.length co130, .slice Ao129 t185.length co129] (0, 0) _ rfl (by (with_reducible repeat (first | refine blk_drewN ?_ _ | refine blk_drew ?_ | refine blk_alloc ?_ _)); refine blk_put (cs := #[.slice Ao130 t182.length co130, .slice none 0 0]) ?_ 1 _ rfl; (with_reducible repeat (first | refine blk_drewN ?_ _ | refine blk_drew ?_ | refine blk_alloc ?_ _)); refine blk_put (cs := #[.slice none 0 0, .slice none 0 0]) ?_ 0 _ rfl; (with_reducible repeat (first | refine blk_drewN ?_ _ | refine blk_drew ?_ | refine blk_alloc ?_ _)); refine blk_far ?_ NB180_188.out _; (with_reducible repeat (first | refine blk_drewN ?_ _ | refine blk_drew ?_ | refine blk_alloc ?_ _)); refine blk_far ?_ NB180_188.out _; (with_reducible repeat (first | refine blk_drewN ?_ _ | refine blk_drew ?_ | refine blk_alloc ?_ _)); exact BK180.out) Try.underlying26 rfl (by kernel_rfl)) rfl ?_
   exact ⟨_, _, by first | rfl | (simp [errW_none, errW_some] <;> rfl) | (simp [*, errW_none, errW_some] <;> rfl), by (with_reducible repeat (first | apply Kd.R_alloc | apply Kd.R_drewN | apply Kd.R_drew)); exact Kd.R_mono (Kd.R_far (p := ⟨gb180, 1, none⟩) (Kd.R_far (p := ⟨gb180, 0, none⟩) (Kd.R_far (p := ⟨gb188, 1, none⟩) (Kd.R_far (p := ⟨gb188, 0, none⟩) (Kd.R_types (Kd.R_types HO184.out BK188.out (by decide)) BK180.out (by decide)) (fun _ hk => hk.1.2) (.slice Ao130 t182.length co130)) (fun _ hk => hk.1.2) (.slice Ao129 t185.length co129)) (fun _ hk => hk.2) (.slice Ao130 t182.length co130)) (fun _ hk => hk.2) (.slice Ao129 t185.length co129)) (fun _ hk => hk.1.1), by (with_reducible repeat (first | apply Kd.R_alloc | apply Kd.R_drewN | apply Kd.R_drew)); exact Kd.R_mono (Kd.R_far (p := ⟨gb180, 1, none⟩) (Kd.R_far (p := ⟨gb180, 0, none⟩) (Kd.R_far (p := ⟨gb188, 1, none⟩) (Kd.R_far (p := ⟨gb188, 0, none⟩) (Kd.R_types (Kd.R_types HO187.out BK188.out (by decide)) BK180.out (by decide)) (fun _ hk => hk.1.2) (.slice Ao130 t182.length co130)) (fun _ hk => hk.1.2) (.slice Ao129 t185.length co129)) (fun _ hk => hk.2) (.slice Ao130 t182.length co130)) (fun _ hk => hk.2) (.slice Ao129 t185.length co129)) (fun _ hk => hk.1.1), by repeat (first | (with_reducible first | exact HB.out | apply below_alloc | apply pw_below_drewN | apply below_drew1 | refine below_set ?_ GE178.out | refine below_set ?_ GE179.out | refine below_set ?_ GE180.out | refine below_set ?_ GE188.out) | exact HB.out)⟩

end Go.Proofs.Ytobkbpoamicjgaa.PFnExactStatesAlong

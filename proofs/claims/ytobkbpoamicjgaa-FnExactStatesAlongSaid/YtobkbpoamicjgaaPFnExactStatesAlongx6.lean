/- Lean functions of the Go functions that the law FnExactStatesAlong reaches, and the proofs that the calls come to what they say (made by program). -/
import Derived.Test.YtobkbpoamicjgaaAb
import Derived.Test.YtobkbpoamicjgaaPFnExactStatesAlongx0
import Derived.Test.YtobkbpoamicjgaaPFnExactStatesAlongx5
namespace Go.Proofs.Ytobkbpoamicjgaa.PFnExactStatesAlong
open Go.RowKit Go.Proofs.YtobkbpoamicjgaaW.PrintWords Go.Proofs.YtobkbpoamicjgaaW.PrintLast Go.Proofs.YtobkbpoamicjgaaW.PrintMore Go.Proofs.Ytobkbpoamicjgaa.Ab
attribute [local go_sem] max2_int min2_int max_two min_two max_three min_three max_four min_four   -- for this text's walks alone
set_option linter.unusedVariables false
set_option linter.unusedSimpArgs false

/-! ### impl_Vessels_behind: function 78 -/
def impl_Vessels_behind.f (l0_0 : List Int) (l0_1 : List Int) (a1_0 : Int) (a1_1 : Int) : Option (List Int × List Int) := (impl_Vessels_own.f l0_0 l0_1).bind fun bt220 => ((impl_Vessels_amount.f l0_0 l0_1 a1_0 a1_1).bind fun t226 => (if a1_0 ≥ 0 then (if 0 ≤ a1_0 then (if a1_0 < (bt220.2.length : Int) then ((some (bt220.2.set (a1_0 : Int).toNat (wrap64 ((rd bt220.2 a1_0) - t226)) : List Int)).bind fun y229 => (if a1_1 ≥ 0 then (if 0 ≤ a1_1 then (if a1_1 < (bt220.2.length : Int) then (some (bt220.1, (y229.set (a1_1 : Int).toNat (wrap64 ((rd y229 a1_1) + t226))))) else (none)) else (none)) else (some (bt220.1, y229)))) else (none)) else (none)) else (if a1_1 ≥ 0 then (if 0 ≤ a1_1 then (if a1_1 < (bt220.2.length : Int) then (some (bt220.1, (bt220.2.set (a1_1 : Int).toNat (wrap64 ((rd bt220.2 a1_1) + t226))))) else (none)) else (none)) else (some (bt220.1, bt220.2)))))
def impl_Vessels_behind.T1 : Bool × List (List Nat × List Nat) := (true, [([], []), ([0], [0]), ([], []), ([], []), ([2, 3, 1], [2, 3]), ([], []), ([5, 1, 4, 0, 1, 5], [1, 5]), ([4, 6, 0, 1, 2, 3, 4, 5, 6], [4])])
def impl_Vessels_behind.B1 : List Nat := [0, 1, 0, 0, 15, 0, 63, 127]
theorem impl_Vessels_behind.tab1 : rtab .any (opsOf Try.f78 1) = impl_Vessels_behind.T1 := by kernel_rfl
theorem impl_Vessels_behind.bits1 : waitsOk impl_Vessels_behind.T1.2 impl_Vessels_behind.B1 = true := by kernel_rfl
set_option maxHeartbeats 8000000 in
set_option maxRecDepth 100000 in
theorem impl_Vessels_behind.calls (A0_0 : Option Addr) (c0_0 : Nat) (l0_0 : List Int) (A0_1 : Option Addr) (c0_1 : Nat) (l0_1 : List Int) (a1_0 : Int) (a1_1 : Int) (r1 : List Int) (r2 : List Int) (w : World) (hr0_0 : Kd.C (Kd.int .i64) w A0_0 l0_0.length l0_0) (hc0_0 : l0_0.length ≤ c0_0) (hr0_1 : Kd.C (Kd.int .i64) w A0_1 l0_1.length l0_1) (hc0_1 : l0_1.length ≤ c0_1) (h : impl_Vessels_behind.f l0_0 l0_1 a1_0 a1_1 = some (r1, r2)) :
  Calls Try.prog 78 #[.agg #[.slice A0_0 l0_0.length c0_0, .slice A0_1 l0_1.length c0_1], .agg #[.int .i64 a1_0, .int .i64 a1_1]] w fun e w' => ∃ v0_ v1_ : Value, e = .returned (.agg #[v0_, v1_]) ∧ Kd.R (Kd.int .i64) 3 w' w.heap.size (fun k_ => nV k_ v1_) v0_ r1 ∧ Kd.R (Kd.int .i64) 3 w' w.heap.size (fun k_ => nV k_ v0_) v1_ r2 ∧ Below w.heap.size w w' := by
 have hu26 := Try.underlying26
 have hu41 := Try.underlying41
 have HR0_0 := Aside0.mk hr0_0
 have HC0_0 := Aside0.mk hc0_0
 clear hr0_0 hc0_0
 have HR0_1 := Aside0.mk hr0_1
 have HC0_1 := Aside0.mk hc0_1
 clear hr0_1 hc0_1
 have HB := Aside0.mk (Below.refl w.heap.size w)
 have H : ((impl_Vessels_own.f l0_0 l0_1).bind fun bt220 => ((impl_Vessels_amount.f l0_0 l0_1 a1_0 a1_1).bind fun t226 => (if a1_0 ≥ 0 then (if 0 ≤ a1_0 then (if a1_0 < (bt220.2.length : Int) then ((some (bt220.2.set (a1_0 : Int).toNat (wrap64 ((rd bt220.2 a1_0) - t226)) : List Int)).bind fun y229 => (if a1_1 ≥ 0 then (if 0 ≤ a1_1 then (if a1_1 < (bt220.2.length : Int) then (some (bt220.1, (y229.set (a1_1 : Int).toNat (wrap64 ((rd y229 a1_1) + t226))))) else (none)) else (none)) else (some (bt220.1, y229)))) else (none)) else (none)) else (if a1_1 ≥ 0 then (if 0 ≤ a1_1 then (if a1_1 < (bt220.2.length : Int) then (some (bt220.1, (bt220.2.set (a1_1 : Int).toNat (wrap64 ((rd bt220.2 a1_1) + t226))))) else (none)) else (none)) else (some (bt220.1, bt220.2)))))) = some (r1, r2) := h
 clear h
 replace H := Option.bind_eq_some_iff.mp H
 obtain ⟨⟨t220, t223⟩, A30, H⟩ := H
 replace H : ((impl_Vessels_amount.f l0_0 l0_1 a1_0 a1_1).bind fun t226 => (if a1_0 ≥ 0 then (if 0 ≤ a1_0 then (if a1_0 < (t223.length : Int) then ((some (t223.set (a1_0 : Int).toNat (wrap64 ((rd t223 a1_0) - t226)) : List Int)).bind fun y229 => (if a1_1 ≥ 0 then (if 0 ≤ a1_1 then (if a1_1 < (t223.length : Int) then (some (t220, (y229.set (a1_1 : Int).toNat (wrap64 ((rd y229 a1_1) + t226))))) else (none)) else (none)) else (some (t220, y229)))) else (none)) else (none)) else (if a1_1 ≥ 0 then (if 0 ≤ a1_1 then (if a1_1 < (t223.length : Int) then (some (t220, (t223.set (a1_1 : Int).toNat (wrap64 ((rd t223 a1_1) + t226))))) else (none)) else (none)) else (some (t220, t223))))) = some (r1, r2) := H
 have A3 := Aside0.mk A30
 clear A30
 replace H := Option.bind_eq_some_iff.mp H
 obtain ⟨t226, A40, H⟩ := H
 replace H : (if a1_0 ≥ 0 then (if 0 ≤ a1_0 then (if a1_0 < (t223.length : Int) then ((some (t223.set (a1_0 : Int).toNat (wrap64 ((rd t223 a1_0) - t226)) : List Int)).bind fun y229 => (if a1_1 ≥ 0 then (if 0 ≤ a1_1 then (if a1_1 < (t223.length : Int) then (some (t220, (y229.set (a1_1 : Int).toNat (wrap64 ((rd y229 a1_1) + t226))))) else (none)) else (none)) else (some (t220, y229)))) else (none)) else (none)) else (if a1_1 ≥ 0 then (if 0 ≤ a1_1 then (if a1_1 < (t223.length : Int) then (some (t220, (t223.set (a1_1 : Int).toNat (wrap64 ((rd t223 a1_1) + t226))))) else (none)) else (none)) else (some (t220, t223)))) = some (r1, r2) := H
 have A4 := Aside0.mk A40
 clear A40
 by_cases c5 : a1_0 ≥ 0
 ·rw [if_pos c5] at H
  have c5b0 : decide (0 ≤ a1_0) = true := decide_eq_true c5
  clear c5
  by_cases c6 : 0 ≤ a1_0
  ·rw [if_pos c6] at H
   have c6b0 : decide (0 ≤ a1_0) = true := decide_eq_true c6
   clear c6
   by_cases c7 : a1_0 < (t223.length : Int)
   ·rw [if_pos c7] at H
    have c7b0 : decide (a1_0 < (t223.length : Int)) = true := decide_eq_true c7
    clear c7
    obtain ⟨y229, hy229⟩ : ∃ y_ : List Int, y_ = (t223.set (a1_0 : Int).toNat (wrap64 ((rd t223 a1_0) - t226))) := ⟨_, rfl⟩
    replace H : (if a1_1 ≥ 0 then (if 0 ≤ a1_1 then (if a1_1 < (t223.length : Int) then (some (t220, (y229.set (a1_1 : Int).toNat (wrap64 ((rd y229 a1_1) + t226))))) else (none)) else (none)) else (some (t220, y229))) = some (r1, r2) := by first | (rw [hy229]; with_reducible exact H) | (have H2_ := (Option.bind_some _ _).symm.trans H; rw [hy229]; with_reducible exact H2_) | (have H2_ := (Option.bind_some _ _).symm.trans H; with_reducible exact H2_) | with_reducible exact H | (rw [hy229]; exact H) | exact H
    have Ny229 := Aside0.mk hy229
    clear hy229
    by_cases c9 : a1_1 ≥ 0
    ·rw [if_pos c9] at H
     have c9b0 : decide (0 ≤ a1_1) = true := decide_eq_true c9
     clear c9
     by_cases c10 : 0 ≤ a1_1
     ·rw [if_pos c10] at H
      have c10b0 : decide (0 ≤ a1_1) = true := decide_eq_true c10
      clear c10
      by_cases c11 : a1_1 < (t223.length : Int)
      ·rw [if_pos c11] at H
       have c11b0 : decide (a1_1 < (t223.length : Int)) = true := decide_eq_true c11
       clear c11
       obtain ⟨y231, hy231⟩ : ∃ y_ : List Int, y_ = (y229.set (a1_1 : Int).toNat (wrap64 ((rd y229 a1_1) + t226))) := ⟨_, rfl⟩
       replace H : (some (t220, y231)) = some (r1, r2) := by first | (rw [hy231]; with_reducible exact H) | (have H2_ := (Option.bind_some _ _).symm.trans H; rw [hy231]; with_reducible exact H2_) | (have H2_ := (Option.bind_some _ _).symm.trans H; with_reducible exact H2_) | with_reducible exact H | (rw [hy231]; exact H) | exact H
       have Ny231 := Aside0.mk hy231
       clear hy231
       simp only [Option.some.injEq, Prod.mk.injEq] at H
       obtain ⟨rfl, rfl⟩ := H
       go_enter Try.func78, Try.ntmps78
       try go_wp2_with (first | ((with_reducible refine gate_dst (N := 2) rfl ?_); refine box_event ?hg (N := 2) ?hd (cs := #[.slice A0_0 l0_0.length c0_0, .slice A0_1 l0_1.length c0_1]) (t := 26) ?hr ?_; (case hd => rfl); (case hg => rfl); (case hr => first | (go_simp; done) | (go_simp; rfl)); intro gb217 hg w13 hbox hb; have BK217 := Aside0.mk (hbox); have GW217 := xg HB hg; have GE217 := xg HB hg; replace HB := xp HB hb; clear hb hbox hg) | ((with_reducible refine gate_dst (N := 3) rfl ?_); refine box_event ?hg (N := 3) ?hd (cs := #[.int .i64 a1_0, .int .i64 a1_1]) (t := 41) ?hr ?_; (case hd => rfl); (case hg => rfl); (case hr => first | (go_simp; done) | (go_simp; rfl)); intro gb218 hg w14 hbox hb; have BK218 := Aside0.mk (hbox); have GW218 := xg HB hg; have GE218 := xg HB hg; replace HB := xp HB hb; have NB217_218 := xl BK217 hg; have NB218_217 := xh BK217 hg; replace BK217 := xk BK217 hb; clear hb hbox hg) | ((with_reducible refine gate_dst (N := 4) rfl ?_); refine box_event ?hg (N := 4) ?hd (cs := #[.slice none 0 0, .slice none 0 0]) (t := 26) ?hr ?_; (case hd => rfl); (case hg => rfl); (case hr => first | (go_simp; done) | (go_simp; rfl)); intro gb219 hg w15 hbox hb; have BK219 := Aside0.mk (hbox); have GW219 := xg HB hg; have GE219 := xg HB hg; replace HB := xp HB hb; have NB217_219 := xl BK217 hg; have NB219_217 := xh BK217 hg; replace BK217 := xk BK217 hb; have NB218_219 := xl BK218 hg; have NB219_218 := xh BK218 hg; replace BK218 := xk BK218 hb; clear hb hbox hg))
       replace BK217 := xv BK217
       replace BK218 := xv BK218
       replace BK219 := xv BK219
       replace HB := Aside0.mk (below_drew1 HB.out)
       refine start_ (n := 8) (S := fun w' => w'.cell? ⟨gb217, 0, none⟩ = some (.slice A0_0 l0_0.length c0_0) ∧ w'.cell? ⟨gb217, 1, none⟩ = some (.slice A0_1 l0_1.length c0_1) ∧ w'.cell? ⟨gb218, 0, none⟩ = some (.int .i64 a1_0) ∧ w'.cell? ⟨gb218, 1, none⟩ = some (.int .i64 a1_1)) (ds := []) #[false, false, false, false, false, false, false, false] (by kernel_rfl) rfl rfl ⟨(blk_cell BK217.out 0).trans rfl, (blk_cell BK217.out 1).trans rfl, (blk_cell BK218.out 0).trans rfl, (blk_cell BK218.out 1).trans rfl⟩ (fun hHeld => ?_); refine with_tabW impl_Vessels_behind.tab1 impl_Vessels_behind.bits1 (fun HT_ HW_ => ?_)
       generalize w15.drew = w16 at BK217 BK218 BK219 HB hHeld ⊢
       refine take_ (i := 0) (N := some 7) (v := ?_) (a' := ?_) #[true, false, false, false, false, false, false, false] rfl rfl (take_ofW HT_.out HW_.out (by kernel_rfl)) (fun _ _ _ h => h) (Or.inl ⟨by rfl, ?_⟩) hHeld ?_ ?_
       rotate_left
       ·rintro w' ⟨s0, s1, s2, s3⟩
        go_simp
        with_reducible rfl
       rotate_left
       ·simp only [Act.put, List.setIfInBounds_toArray, List.set_cons_zero, List.set_cons_succ, i64_w, i32_w]
        rfl
       refine take_ (i := 2) (N := some 9) (v := ?_) (a' := ?_) #[true, false, true, false, false, false, false, false] rfl rfl (take_ofW HT_.out HW_.out (by kernel_rfl)) (fun _ _ _ h => h) (Or.inl ⟨by rfl, ?_⟩) hHeld ?_ ?_
       rotate_left
       ·rintro w' ⟨s0, s1, s2, s3⟩
        go_simp
        with_reducible rfl
       rotate_left
       ·simp only [Act.put, List.setIfInBounds_toArray, List.set_cons_zero, List.set_cons_succ, i64_w, i32_w]
        rfl
       refine take_ (i := 3) (N := some 10) (v := ?_) (a' := ?_) #[true, false, true, true, false, false, false, false] rfl rfl (take_ofW HT_.out HW_.out (by kernel_rfl)) (fun _ _ _ h => h) (Or.inl ⟨by rfl, ?_⟩) hHeld ?_ ?_
       rotate_left
       ·rintro w' ⟨s0, s1, s2, s3⟩
        go_simp
        with_reducible rfl
       rotate_left
       ·simp only [Act.put, List.setIfInBounds_toArray, List.set_cons_zero, List.set_cons_succ, i64_w, i32_w]
        rfl
       refine join_ (σ := Value × Value × Nat) 2 #[true, true, true, true, true, true, false, false] (fun s_ => [(8, .agg #[s_.1, s_.2.1]), (11, .int .i64 t226), (5, .pointer (some ⟨s_.2.2, 0, none⟩))]) (fun s_ w' => (w'.cell? ⟨gb217, 0, none⟩ = some (.slice A0_0 l0_0.length c0_0) ∧ w'.cell? ⟨gb217, 1, none⟩ = some (.slice A0_1 l0_1.length c0_1) ∧ w'.cell? ⟨gb218, 0, none⟩ = some (.int .i64 a1_0) ∧ w'.cell? ⟨gb218, 1, none⟩ = some (.int .i64 a1_1)) ∧ (Kd.R (Kd.int .i64) 3 w' w.heap.size (fun k_ => some k_ ≠ (s_.2.1 : Value).ownBlock) s_.1 t220) ∧ (Kd.R (Kd.int .i64) 3 w' w.heap.size (fun k_ => some k_ ≠ (s_.1 : Value).ownBlock) s_.2.1 t223) ∧ (w'.heap[gb217]? = some (.cells #[.slice A0_0 l0_0.length c0_0, .slice A0_1 l0_1.length c0_1] 26 (0, 0))) ∧ (w'.heap[gb218]? = some (.cells #[.int .i64 a1_0, .int .i64 a1_1] 41 (0, 0))) ∧ (w'.heap[gb219]? = some (.cells #[.slice none 0 0, .slice none 0 0] 26 (0, 0))) ∧ (w'.heap[s_.2.2]? = some (.cells #[.slice none 0 0, .slice none 0 0] 26 (0, 0))) ∧ (w.heap.size ≤ s_.2.2) ∧ (w.heap.size ≤ s_.2.2) ∧ (gb217 ≠ s_.2.2) ∧ (s_.2.2 ≠ gb217) ∧ (gb218 ≠ s_.2.2) ∧ (s_.2.2 ≠ gb218) ∧ (gb219 ≠ s_.2.2) ∧ (s_.2.2 ≠ gb219) ∧ (Below w.heap.size w w')) ?_ ?_
       rotate_left
       ·intro hCont
        refine two_ (i := 1) (j := 5) (Ni := some 8) (Nj := some 5) #[true, true, true, true, false, false, false, false] #[true, false, true, true, false, true, false, false] rfl rfl rfl rfl (two_of HT_.out (by kernel_rfl)) (by decide) (by decide) (fun K hK => ?_) (fun K hK => ?_)
        ·skip
         refine goes_ Try.func65 (by kernel_rfl) rfl #[.agg #[.slice A0_0 l0_0.length c0_0, .slice A0_1 l0_1.length c0_1]] (by rfl) rfl rfl (by (try simp only [List.map_toArray, List.map_cons, List.map_nil]); first | done | rfl | (simp only [List.length_drop, List.length_take]; rfl)) ?_
         with_reducible refine (impl_Vessels_own.calls _ _ l0_0 _ _ l0_1 t220 t223 _ ?side1 ?side2 ?side3 ?side4 A3.out).mono ?_
         (case side1 => exact xd ((Kd.C_below HR0_0.out HB.out)))
         (case side2 => exact HC0_0.out)
         (case side3 => exact xd ((Kd.C_below HR0_1.out HB.out)))
         (case side4 => exact HC0_1.out)
         rintro e w17 ⟨v221, v224, rfl, ho0, ho1, hb⟩
         refine ⟨_, rfl, ?_⟩
         have HO222 := Aside0.mk (Kd.R_lower ho0 (below_size (xs HB.out)))
         have HO225 := Aside0.mk (Kd.R_lower ho1 (below_size (xs HB.out)))
         replace BK217 := xk BK217 hb
         replace BK218 := xk BK218 hb
         replace BK219 := xk BK219 hb
         replace HB := xp HB hb
         (try clear hb)
         (try clear hb2)
         (try clear hk)
         (try clear hi)
         (try clear ho0)
         (try clear ho1)
         refine hK.out _ _ ⟨(blk_cell BK217.out 0).trans rfl, (blk_cell BK217.out 1).trans rfl, (blk_cell BK218.out 0).trans rfl, (blk_cell BK218.out 1).trans rfl⟩ (fun hHeld => ?_)
         clear hK K
         refine norm_ (a' := ?_) ?_ ?_
         rotate_left
         ·show Act.put _ (some 8) _ = _
          simp only [Act.put, List.setIfInBounds_toArray, List.set_cons_zero, List.set_cons_succ, i64_w, i32_w]
          rfl
         refine two_ (i := 4) (j := 5) (Ni := some 11) (Nj := some 5) #[true, true, true, true, true, false, false, false] #[true, true, true, true, false, true, false, false] rfl rfl rfl rfl (two_of HT_.out (by kernel_rfl)) (by decide) (by decide) (fun K hK => ?_) (fun K hK => ?_)
         ·skip
          refine goes_ Try.func83 (by kernel_rfl) rfl #[.agg #[.slice A0_0 l0_0.length c0_0, .slice A0_1 l0_1.length c0_1], .agg #[.int .i64 a1_0, .int .i64 a1_1]] (by rfl) rfl rfl (by (try simp only [List.map_toArray, List.map_cons, List.map_nil]); first | done | rfl | (simp only [List.length_drop, List.length_take]; rfl)) ?_
          with_reducible refine (impl_Vessels_amount.calls _ _ l0_0 _ _ l0_1 a1_0 a1_1 t226 _ ?side1 ?side2 ?side3 ?side4 A4.out).mono ?_
          (case side1 => exact xd ((Kd.C_below HR0_0.out HB.out)))
          (case side2 => exact HC0_0.out)
          (case side3 => exact xd ((Kd.C_below HR0_1.out HB.out)))
          (case side4 => exact HC0_1.out)
          rintro e w18 ⟨rfl, hb⟩
          refine ⟨_, rfl, ?_⟩
          replace HO222 := xq HO222 hb
          replace HO225 := xq HO225 hb
          replace BK217 := xk BK217 hb
          replace BK218 := xk BK218 hb
          replace BK219 := xk BK219 hb
          replace HB := xp HB hb
          (try clear hb)
          (try clear hb2)
          (try clear hk)
          (try clear hi)
          refine hK.out _ _ ⟨(blk_cell BK217.out 0).trans rfl, (blk_cell BK217.out 1).trans rfl, (blk_cell BK218.out 0).trans rfl, (blk_cell BK218.out 1).trans rfl⟩ (fun hHeld => ?_)
          clear hK K
          refine norm_ (a' := ?_) ?_ ?_
          rotate_left
          ·show Act.put _ (some 11) _ = _
           simp only [Act.put, List.setIfInBounds_toArray, List.set_cons_zero, List.set_cons_succ, i64_w, i32_w]
           rfl
          refine one_ (i := 5) (N := some 5) #[true, true, true, true, true, true, false, false] rfl rfl (one_of HT_.out (by kernel_rfl)) (by decide) (fun K hK => ?_)
          refine box_step ?hg (N := 5) ?hd (cs := #[.slice none 0 0, .slice none 0 0]) (t := 26) ?hr ?_; (case hd => rfl); (case hg => rfl); (case hr => first | (go_simp; done) | (go_simp; rfl))
          intro gb227 hg w19 hbox hb
          replace HO222 := xq HO222 hb
          replace HO225 := xq HO225 hb
          have BK227 := Aside0.mk (hbox)
          have GW227 := xg HB hg
          have GE227 := xg HB hg
          replace HB := xp HB hb
          have NB217_227 := xl BK217 hg
          have NB227_217 := xh BK217 hg
          replace BK217 := xk BK217 hb
          have NB218_227 := xl BK218 hg
          have NB227_218 := xh BK218 hg
          replace BK218 := xk BK218 hb
          have NB219_227 := xl BK219 hg
          have NB227_219 := xh BK219 hg
          replace BK219 := xk BK219 hb
          clear hb hbox hg
          refine hK.out _ _ ⟨(blk_cell BK217.out 0).trans rfl, (blk_cell BK217.out 1).trans rfl, (blk_cell BK218.out 0).trans rfl, (blk_cell BK218.out 1).trans rfl⟩ (fun hHeld => ?_)
          clear hK K
          refine norm_ (a' := ?_) ?_ ?_
          rotate_left
          ·show Act.put _ (some 5) _ = _
           simp only [Act.put, List.setIfInBounds_toArray, List.set_cons_zero, List.set_cons_succ, i64_w, i32_w]
           rfl
          exact norm_ (by simp only [putAll, Act.put, List.setIfInBounds_toArray, List.set_cons_zero, List.set_cons_succ]) (hCont (v221, v224, gb227) _ ⟨hHeld, (xr HO222.out), (xr HO225.out), (xb BK217.out), (xb BK218.out), (xb BK219.out), (xb BK227.out), GW227.out, GE227.out, NB217_227.out, NB227_217.out, NB218_227.out, NB227_218.out, NB219_227.out, NB227_219.out, (xs HB.out)⟩)
         ·skip
          refine box_step ?hg (N := 5) ?hd (cs := #[.slice none 0 0, .slice none 0 0]) (t := 26) ?hr ?_; (case hd => rfl); (case hg => rfl); (case hr => first | (go_simp; done) | (go_simp; rfl))
          intro gb227 hg w18 hbox hb
          replace HO222 := xq HO222 hb
          replace HO225 := xq HO225 hb
          have BK227 := Aside0.mk (hbox)
          have GW227 := xg HB hg
          have GE227 := xg HB hg
          replace HB := xp HB hb
          have NB217_227 := xl BK217 hg
          have NB227_217 := xh BK217 hg
          replace BK217 := xk BK217 hb
          have NB218_227 := xl BK218 hg
          have NB227_218 := xh BK218 hg
          replace BK218 := xk BK218 hb
          have NB219_227 := xl BK219 hg
          have NB227_219 := xh BK219 hg
          replace BK219 := xk BK219 hb
          clear hb hbox hg
          refine hK.out _ _ ⟨(blk_cell BK217.out 0).trans rfl, (blk_cell BK217.out 1).trans rfl, (blk_cell BK218.out 0).trans rfl, (blk_cell BK218.out 1).trans rfl⟩ (fun hHeld => ?_)
          clear hK K
          refine norm_ (a' := ?_) ?_ ?_
          rotate_left
          ·show Act.put _ (some 5) _ = _
           simp only [Act.put, List.setIfInBounds_toArray, List.set_cons_zero, List.set_cons_succ, i64_w, i32_w]
           rfl
          refine one_ (i := 4) (N := some 11) #[true, true, true, true, true, true, false, false] rfl rfl (one_of HT_.out (by kernel_rfl)) (by decide) (fun K hK => ?_)
          refine goes_ Try.func83 (by kernel_rfl) rfl #[.agg #[.slice A0_0 l0_0.length c0_0, .slice A0_1 l0_1.length c0_1], .agg #[.int .i64 a1_0, .int .i64 a1_1]] (by rfl) rfl rfl (by (try simp only [List.map_toArray, List.map_cons, List.map_nil]); first | done | rfl | (simp only [List.length_drop, List.length_take]; rfl)) ?_
          with_reducible refine (impl_Vessels_amount.calls _ _ l0_0 _ _ l0_1 a1_0 a1_1 t226 _ ?side1 ?side2 ?side3 ?side4 A4.out).mono ?_
          (case side1 => exact xd ((Kd.C_below HR0_0.out HB.out)))
          (case side2 => exact HC0_0.out)
          (case side3 => exact xd ((Kd.C_below HR0_1.out HB.out)))
          (case side4 => exact HC0_1.out)
          rintro e w19 ⟨rfl, hb⟩
          refine ⟨_, rfl, ?_⟩
          replace HO222 := xq HO222 hb
          replace HO225 := xq HO225 hb
          replace BK217 := xk BK217 hb
          replace BK218 := xk BK218 hb
          replace BK219 := xk BK219 hb
          replace BK227 := xk BK227 hb
          replace HB := xp HB hb
          (try clear hb)
          (try clear hb2)
          (try clear hk)
          (try clear hi)
          refine hK.out _ _ ⟨(blk_cell BK217.out 0).trans rfl, (blk_cell BK217.out 1).trans rfl, (blk_cell BK218.out 0).trans rfl, (blk_cell BK218.out 1).trans rfl⟩ (fun hHeld => ?_)
          clear hK K
          refine norm_ (a' := ?_) ?_ ?_
          rotate_left
          ·show Act.put _ (some 11) _ = _
           simp only [Act.put, List.setIfInBounds_toArray, List.set_cons_zero, List.set_cons_succ, i64_w, i32_w]
           rfl
          exact norm_ (by simp only [putAll, Act.put, List.setIfInBounds_toArray, List.set_cons_zero, List.set_cons_succ]) (hCont (v221, v224, gb227) _ ⟨hHeld, (xr HO222.out), (xr HO225.out), (xb BK217.out), (xb BK218.out), (xb BK219.out), (xb BK227.out), GW227.out, GE227.out, NB217_227.out, NB227_217.out, NB218_227.out, NB227_218.out, NB219_227.out, NB227_219.out, (xs HB.out)⟩)
        ·skip
         refine box_step ?hg (N := 5) ?hd (cs := #[.slice none 0 0, .slice none 0 0]) (t := 26) ?hr ?_; (case hd => rfl); (case hg => rfl); (case hr => first | (go_simp; done) | (go_simp; rfl))
         intro gb227 hg w17 hbox hb
         have BK227 := Aside0.mk (hbox)
         have GW227 := xg HB hg
         have GE227 := xg HB hg
         replace HB := xp HB hb
         have NB217_227 := xl BK217 hg
         have NB227_217 := xh BK217 hg
         replace BK217 := xk BK217 hb
         have NB218_227 := xl BK218 hg
         have NB227_218 := xh BK218 hg
         replace BK218 := xk BK218 hb
         have NB219_227 := xl BK219 hg
         have NB227_219 := xh BK219 hg
         replace BK219 := xk BK219 hb
         clear hb hbox hg
         refine hK.out _ _ ⟨(blk_cell BK217.out 0).trans rfl, (blk_cell BK217.out 1).trans rfl, (blk_cell BK218.out 0).trans rfl, (blk_cell BK218.out 1).trans rfl⟩ (fun hHeld => ?_)
         clear hK K
         refine norm_ (a' := ?_) ?_ ?_
         rotate_left
         ·show Act.put _ (some 5) _ = _
          simp only [Act.put, List.setIfInBounds_toArray, List.set_cons_zero, List.set_cons_succ, i64_w, i32_w]
          rfl
         refine one_ (i := 1) (N := some 8) #[true, true, true, true, false, true, false, false] rfl rfl (one_of HT_.out (by kernel_rfl)) (by decide) (fun K hK => ?_)
         refine goes_ Try.func65 (by kernel_rfl) rfl #[.agg #[.slice A0_0 l0_0.length c0_0, .slice A0_1 l0_1.length c0_1]] (by rfl) rfl rfl (by (try simp only [List.map_toArray, List.map_cons, List.map_nil]); first | done | rfl | (simp only [List.length_drop, List.length_take]; rfl)) ?_
         with_reducible refine (impl_Vessels_own.calls _ _ l0_0 _ _ l0_1 t220 t223 _ ?side1 ?side2 ?side3 ?side4 A3.out).mono ?_
         (case side1 => exact xd ((Kd.C_below HR0_0.out HB.out)))
         (case side2 => exact HC0_0.out)
         (case side3 => exact xd ((Kd.C_below HR0_1.out HB.out)))
         (case side4 => exact HC0_1.out)
         rintro e w18 ⟨v221, v224, rfl, ho0, ho1, hb⟩
         refine ⟨_, rfl, ?_⟩
         have HO222 := Aside0.mk (Kd.R_lower ho0 (below_size (xs HB.out)))
         have HO225 := Aside0.mk (Kd.R_lower ho1 (below_size (xs HB.out)))
         replace BK217 := xk BK217 hb
         replace BK218 := xk BK218 hb
         replace BK219 := xk BK219 hb
         replace BK227 := xk BK227 hb
         replace HB := xp HB hb
         (try clear hb)
         (try clear hb2)
         (try clear hk)
         (try clear hi)
         (try clear ho0)
         (try clear ho1)
         refine hK.out _ _ ⟨(blk_cell BK217.out 0).trans rfl, (blk_cell BK217.out 1).trans rfl, (blk_cell BK218.out 0).trans rfl, (blk_cell BK218.out 1).trans rfl⟩ (fun hHeld => ?_)
         clear hK K
         refine norm_ (a' := ?_) ?_ ?_
         rotate_left
         ·show Act.put _ (some 8) _ = _
          simp only [Act.put, List.setIfInBounds_toArray, List.set_cons_zero, List.set_cons_succ, i64_w, i32_w]
          rfl
         refine one_ (i := 4) (N := some 11) #[true, true, true, true, true, true, false, false] rfl rfl (one_of HT_.out (by kernel_rfl)) (by decide) (fun K hK => ?_)
         refine goes_ Try.func83 (by kernel_rfl) rfl #[.agg #[.slice A0_0 l0_0.length c0_0, .slice A0_1 l0_1.length c0_1], .agg #[.int .i64 a1_0, .int .i64 a1_1]] (by rfl) rfl rfl (by (try simp only [List.map_toArray, List.map_cons, List.map_nil]); first | done | rfl | (simp only [List.length_drop, List.length_take]; rfl)) ?_
         with_reducible refine (impl_Vessels_amount.calls _ _ l0_0 _ _ l0_1 a1_0 a1_1 t226 _ ?side1 ?side2 ?side3 ?side4 A4.out).mono ?_
         (case side1 => exact xd ((Kd.C_below HR0_0.out HB.out)))
         (case side2 => exact HC0_0.out)
         (case side3 => exact xd ((Kd.C_below HR0_1.out HB.out)))
         (case side4 => exact HC0_1.out)
         rintro e w19 ⟨rfl, hb⟩
         refine ⟨_, rfl, ?_⟩
         replace HO222 := xq HO222 hb
         replace HO225 := xq HO225 hb
         replace BK217 := xk BK217 hb
         replace BK218 := xk BK218 hb
         replace BK219 := xk BK219 hb
         replace BK227 := xk BK227 hb
         replace HB := xp HB hb
         (try clear hb)
         (try clear hb2)
         (try clear hk)
         (try clear hi)
         refine hK.out _ _ ⟨(blk_cell BK217.out 0).trans rfl, (blk_cell BK217.out 1).trans rfl, (blk_cell BK218.out 0).trans rfl, (blk_cell BK218.out 1).trans rfl⟩ (fun hHeld => ?_)
         clear hK K
         refine norm_ (a' := ?_) ?_ ?_
         rotate_left
         ·show Act.put _ (some 11) _ = _
          simp only [Act.put, List.setIfInBounds_toArray, List.set_cons_zero, List.set_cons_succ, i64_w, i32_w]
          rfl
         exact norm_ (by simp only [putAll, Act.put, List.setIfInBounds_toArray, List.set_cons_zero, List.set_cons_succ]) (hCont (v221, v224, gb227) _ ⟨hHeld, (xr HO222.out), (xr HO225.out), (xb BK217.out), (xb BK218.out), (xb BK219.out), (xb BK227.out), GW227.out, GE227.out, NB217_227.out, NB227_217.out, NB218_227.out, NB227_218.out, NB219_227.out, NB227_219.out, (xs HB.out)⟩)
       rintro ⟨v221, v224, gb227⟩ w20 ⟨hS_, h0_, h1_, h2_, h3_, h4_, h5_, h6_, h7_, h8_, h9_, h10_, h11_, h12_, h13_, h14_⟩
       have n0_ : Aside0 (Kd.R (Kd.int .i64) 3 w20 w.heap.size (fun k_ => nV k_ v224) v221 t220) := ⟨h0_⟩
       have n1_ : Aside0 (Kd.R (Kd.int .i64) 3 w20 w.heap.size (fun k_ => nV k_ v221) v224 t223) := ⟨h1_⟩
       have n2_ : Aside0 (w20.heap[gb217]? = some (.cells #[.slice A0_0 l0_0.length c0_0, .slice A0_1 l0_1.length c0_1] 26 (0, 0))) := ⟨h2_⟩
       have n3_ : Aside0 (w20.heap[gb218]? = some (.cells #[.int .i64 a1_0, .int .i64 a1_1] 41 (0, 0))) := ⟨h3_⟩
       have n4_ : Aside0 (w20.heap[gb219]? = some (.cells #[.slice none 0 0, .slice none 0 0] 26 (0, 0))) := ⟨h4_⟩
       have n5_ : Aside0 (w20.heap[gb227]? = some (.cells #[.slice none 0 0, .slice none 0 0] 26 (0, 0))) := ⟨h5_⟩
       have n6_ : Aside0 (w.heap.size ≤ gb227) := ⟨h6_⟩
       have n7_ : Aside0 (w.heap.size ≤ gb227) := ⟨h7_⟩
       have n8_ : Aside0 (gb217 ≠ gb227) := ⟨h8_⟩
       have n9_ : Aside0 (gb227 ≠ gb217) := ⟨h9_⟩
       have n10_ : Aside0 (gb218 ≠ gb227) := ⟨h10_⟩
       have n11_ : Aside0 (gb227 ≠ gb218) := ⟨h11_⟩
       have n12_ : Aside0 (gb219 ≠ gb227) := ⟨h12_⟩
       have n13_ : Aside0 (gb227 ≠ gb219) := ⟨h13_⟩
       have n14_ : Aside0 (Below w.heap.size w w20) := ⟨h14_⟩
       clear BK217
       clear BK218
       clear BK219
       clear HB
       clear h0_ h1_ h2_ h3_ h4_ h5_ h6_ h7_ h8_ h9_ h10_ h11_ h12_ h13_ h14_
       have HO222 := n0_
       have HO225 := n1_
       have BK217 := n2_
       have BK218 := n3_
       have BK219 := n4_
       have BK227 := n5_
       have GW227 := n6_
       have GE227 := n7_
       have NB217_227 := n8_
       have NB227_217 := n9_
       have NB218_227 := n10_
       have NB227_218 := n11_
       have NB219_227 := n12_
       have NB227_219 := n13_
       have HB := n14_
       clear n0_ n1_ n2_ n3_ n4_ n5_ n6_ n7_ n8_ n9_ n10_ n11_ n12_ n13_ n14_
       have hHeld : w20.cell? ⟨gb217, 0, none⟩ = some (.slice A0_0 l0_0.length c0_0) ∧ w20.cell? ⟨gb217, 1, none⟩ = some (.slice A0_1 l0_1.length c0_1) ∧ w20.cell? ⟨gb218, 0, none⟩ = some (.int .i64 a1_0) ∧ w20.cell? ⟨gb218, 1, none⟩ = some (.int .i64 a1_1) := hS_
       obtain ⟨Ao21, co21, eo21⟩ := Kd.R_slice HO222.out
       (first | subst eo21 | (injection eo21 with f1_ f2_ f3_; have f4_ := f1_.symm; have f5_ := f3_.symm; clear f1_ f2_ f3_; subst f4_; subst f5_))
       obtain ⟨Ao23, co23, eo23⟩ := Kd.R_slice HO225.out
       (first | subst eo23 | (injection eo23 with f1_ f2_ f3_; have f4_ := f1_.symm; have f5_ := f3_.symm; clear f1_ f2_ f3_; subst f4_; subst f5_))
       refine norm_ (a' := ?_) ?_ ?_
       rotate_left
       ·simp only [putAll, Act.put, List.setIfInBounds_toArray, List.set_cons_zero, List.set_cons_succ]
        rfl
       refine one_ (i := 6) (N := none) #[true, true, true, true, true, true, true, false] rfl rfl (one_of HT_.out (by kernel_rfl)) (by decide) (fun K hK => ?_)
       have hs22 : w20.cell? ⟨gb227, 0, none⟩ = some (.slice none 0 0) := (blk_cell BK227.out 0).trans rfl
       have hfs22 := blk_frozen BK227.out 0
       have hns22_0 := NB217_227.out
       have hns22_1 := NB218_227.out
       have hns22_2 := NB219_227.out
       have hms22_0 := NB227_217.out
       have hms22_1 := NB227_218.out
       have hms22_2 := NB227_219.out
       have hs24 : w20.cell? ⟨gb227, 1, none⟩ = some (.slice none 0 0) := (blk_cell BK227.out 1).trans rfl
       have hfs24 := blk_frozen BK227.out 1
       have hns24_0 := NB217_227.out
       have hns24_1 := NB218_227.out
       have hns24_2 := NB219_227.out
       have hms24_0 := NB227_217.out
       have hms24_1 := NB227_218.out
       have hms24_2 := NB227_219.out
       refine skip_ (w1 := ?_) (by rfl) rfl ?_ ?_
       rotate_left
       ·go_simp
        rfl
       refine hK.out _ _ ⟨((cell_far (p := ⟨gb227, _, none⟩) NB217_227.out _).trans (((cell_far (p := ⟨gb227, _, none⟩) NB217_227.out _).trans (hHeld.1)))), ((cell_far (p := ⟨gb227, _, none⟩) NB217_227.out _).trans (((cell_far (p := ⟨gb227, _, none⟩) NB217_227.out _).trans (hHeld.2.1)))), ((cell_far (p := ⟨gb227, _, none⟩) NB218_227.out _).trans (((cell_far (p := ⟨gb227, _, none⟩) NB218_227.out _).trans (hHeld.2.2.1)))), ((cell_far (p := ⟨gb227, _, none⟩) NB218_227.out _).trans (((cell_far (p := ⟨gb227, _, none⟩) NB218_227.out _).trans (hHeld.2.2.2))))⟩ (fun hHeld => ?_)
       clear hK K
       refine pure_ (i := 7) (N := some 6) (v := ?_) (a' := ?_) #[true, true, true, true, true, true, true, true] rfl rfl (any_of HT_.out (by kernel_rfl)) (fun _ _ _ h => h) (Or.inl ⟨by rfl, ?_⟩) ?_ ?_
       rotate_left
       ·intro w'
        go_simp
        with_reducible rfl
       rotate_left
       ·simp only [Act.put, List.setIfInBounds_toArray, List.set_cons_zero, List.set_cons_succ, i64_w, i32_w]
        rfl
       refine done_ (done_of HT_.out (by kernel_rfl)) ?_
       have n0_ : Aside0 (Kd.R (Kd.int .i64) 3 ((w20.setCell ⟨gb227, 0, none⟩ (.slice Ao21 t220.length co21)).setCell ⟨gb227, 1, none⟩ (.slice Ao23 t223.length co23)) w.heap.size (fun k_ => nS k_ Ao23 t223.length co23) (.slice Ao21 t220.length co21) t220) := ⟨by (with_reducible repeat (first | apply Kd.R_alloc | apply Kd.R_drewN | apply Kd.R_drew)); exact Kd.R_mono (Kd.R_far (p := ⟨gb227, 1, none⟩) (Kd.R_far (p := ⟨gb227, 0, none⟩) (Kd.R_types HO222.out BK227.out (by decide)) (fun _ hk => hk.2) (.slice Ao21 t220.length co21)) (fun _ hk => hk.2) (.slice Ao23 t223.length co23)) (fun _ hk => hk.1)⟩
       have n1_ : Aside0 (Kd.R (Kd.int .i64) 3 ((w20.setCell ⟨gb227, 0, none⟩ (.slice Ao21 t220.length co21)).setCell ⟨gb227, 1, none⟩ (.slice Ao23 t223.length co23)) w.heap.size (fun k_ => nS k_ Ao21 t220.length co21) (.slice Ao23 t223.length co23) t223) := ⟨by (with_reducible repeat (first | apply Kd.R_alloc | apply Kd.R_drewN | apply Kd.R_drew)); exact Kd.R_mono (Kd.R_far (p := ⟨gb227, 1, none⟩) (Kd.R_far (p := ⟨gb227, 0, none⟩) (Kd.R_types HO225.out BK227.out (by decide)) (fun _ hk => hk.2) (.slice Ao21 t220.length co21)) (fun _ hk => hk.2) (.slice Ao23 t223.length co23)) (fun _ hk => hk.1)⟩
       have n2_ : Aside0 (((w20.setCell ⟨gb227, 0, none⟩ (.slice Ao21 t220.length co21)).setCell ⟨gb227, 1, none⟩ (.slice Ao23 t223.length co23)).heap[gb217]? = some (.cells #[.slice A0_0 l0_0.length c0_0, .slice A0_1 l0_1.length c0_1] 26 (0, 0))) := ⟨xff NB217_227.out NB217_227.out BK217.out⟩
       have n3_ : Aside0 (((w20.setCell ⟨gb227, 0, none⟩ (.slice Ao21 t220.length co21)).setCell ⟨gb227, 1, none⟩ (.slice Ao23 t223.length co23)).heap[gb218]? = some (.cells #[.int .i64 a1_0, .int .i64 a1_1] 41 (0, 0))) := ⟨xff NB218_227.out NB218_227.out BK218.out⟩
       have n4_ : Aside0 (((w20.setCell ⟨gb227, 0, none⟩ (.slice Ao21 t220.length co21)).setCell ⟨gb227, 1, none⟩ (.slice Ao23 t223.length co23)).heap[gb219]? = some (.cells #[.slice none 0 0, .slice none 0 0] 26 (0, 0))) := ⟨xff NB219_227.out NB219_227.out BK219.out⟩
       have n5_ : Aside0 (((w20.setCell ⟨gb227, 0, none⟩ (.slice Ao21 t220.length co21)).setCell ⟨gb227, 1, none⟩ (.slice Ao23 t223.length co23)).heap[gb227]? = some (.cells #[.slice Ao21 t220.length co21, .slice Ao23 t223.length co23] 26 (0, 0))) := ⟨by (with_reducible repeat (first | refine blk_drewN ?_ _ | refine blk_drew ?_ | refine blk_alloc ?_ _)); refine blk_put (cs := #[.slice Ao21 t220.length co21, .slice none 0 0]) ?_ 1 _ rfl; (with_reducible repeat (first | refine blk_drewN ?_ _ | refine blk_drew ?_ | refine blk_alloc ?_ _)); refine blk_put (cs := #[.slice none 0 0, .slice none 0 0]) ?_ 0 _ rfl; (with_reducible repeat (first | refine blk_drewN ?_ _ | refine blk_drew ?_ | refine blk_alloc ?_ _)); exact BK227.out⟩
       have n6_ : Aside0 (Below w.heap.size w ((w20.setCell ⟨gb227, 0, none⟩ (.slice Ao21 t220.length co21)).setCell ⟨gb227, 1, none⟩ (.slice Ao23 t223.length co23))) := ⟨xs HB.out⟩
       (try clear HO222)
       (try clear HO225)
       (try clear BK217)
       (try clear BK218)
       (try clear BK219)
       (try clear BK227)
       (try clear HB)
       generalize ((w20.setCell ⟨gb227, 0, none⟩ (.slice Ao21 t220.length co21)).setCell ⟨gb227, 1, none⟩ (.slice Ao23 t223.length co23)) = w25 at n0_ n1_ n2_ n3_ n4_ n5_ n6_ ⊢
       have HO222 := n0_
       have HO225 := n1_
       have BK217 := n2_
       have BK218 := n3_
       have BK219 := n4_
       have BK227 := n5_
       have HB := n6_
       clear n0_ n1_ n2_ n3_ n4_ n5_ n6_
       have hnb26 := NB218_217.out
       have hnc26 := NB217_218.out
       have hnb27 := NB218_219.out
       have hnc27 := NB219_218.out
       have hnb28 := NB218_227.out
       have hnc28 := NB227_218.out
       have hcz29_0 : w25.cell? ⟨gb218, 0, none⟩ = some (.int .i64 a1_0) := (blk_cell BK218.out 0).trans rfl
       have hcz29_1 : w25.cell? ⟨gb218, 1, none⟩ = some (.int .i64 a1_1) := (blk_cell BK218.out 1).trans rfl
       have hfz29_0 := blk_frozen BK218.out 0
       have hfz29_1 := blk_frozen BK218.out 1
       have hnb30 := NB227_217.out
       have hnc30 := NB217_227.out
       have hnb31 := NB227_219.out
       have hnc31 := NB219_227.out
       have hcz32_0 : w25.cell? ⟨gb227, 0, none⟩ = some (.slice Ao21 t220.length co21) := (blk_cell BK227.out 0).trans rfl
       have hcz32_1 : w25.cell? ⟨gb227, 1, none⟩ = some (.slice Ao23 t223.length co23) := (blk_cell BK227.out 1).trans rfl
       have hfz32_0 := blk_frozen BK227.out 0
       have hfz32_1 := blk_frozen BK227.out 1
       have p228 : 0 ≤ (a1_0 : Int) := of_decide_eq_true (by first | (with_reducible assumption) | assumption)
       have q228 : a1_0 < (t223.length : Int) := of_decide_eq_true (by first | (with_reducible assumption) | assumption)
       obtain ⟨ad228, e228, hx228_0⟩ := Kd.at_int (Kd.R_reads' HO225.out).2.2 a1_0 p228 q228
       cases e228
       replace p228 := eq_true p228
       replace q228 := eq_true q228
       have p8 : 0 ≤ (a1_0 : Int) := of_decide_eq_true (by first | (with_reducible assumption) | assumption)
       have q8 : (a1_0 : Int) < ((t223.length : Int) : Int) := of_decide_eq_true (by first | (with_reducible assumption) | assumption)
       obtain ⟨go8, co8, eo8, gb8, gl8, cl8, HG8⟩ := Kd.R_form HO225.out (by omega)
       (first | cases eo8 | (injection eo8 with ea_ en_ ec_; (first | subst ea_ | (injection ea_ with ea_; subst ea_)); subst ec_; clear en_))
       have GB8 := Aside0.mk gb8
       have GG8 := Aside0.mk HG8
       clear gb8 gl8 HG8
       (first | simp only [add_plain] at hx228_0 | skip)
       obtain ⟨hx8_0, hf8_0⟩ := Kd.R_celln 0 HO225.out (a1_0 : Int) p8 q8
       replace p8 := eq_true p8
       replace q8 := eq_true q8
       obtain ⟨hy33_, hz33_⟩ := Kd.R_celln 0 HO225.out (a1_0 : Int) (of_decide_eq_true (by first | (with_reducible assumption) | assumption)) (of_decide_eq_true (by first | (with_reducible assumption) | assumption))
       have HP33 := Kd.R_putg HO225.out (a1_0 : Int) (wrap64 ((rd t223 a1_0) - t226))
       try go_wp2_with (first | ((with_reducible refine gate_store (t := 3) (p := 23) rfl ?_); refine store_event (t := 3) (p := 23) (v := ?vo_w34) (w1 := (w25.setCell ⟨go8, (a1_0 : Int).toNat, none⟩ (.int .i64 (wrap64 ((rd t223 a1_0) - t226))))) ?hg ?ho ?hn ?hr ?_; (case ho => rfl); (case hg => rfl); (case hn => rfl); (case hr => first | (go_simp; done) | (go_simp; rfl)); intro w34 hw; have hg : w25.grownBy w34 (some go8) := (by rw [hw]; exact HP33.2); have hp_ : Kd.R (Kd.int .i64) 3 w34 w.heap.size (fun k_ => nS k_ Ao21 t220.length co21) (.slice (some ⟨go8, 0, none⟩) t223.length co23) y229 := (by rw [hw, Ny229.out]; exact HP33.1); clear HP33; replace BK217 := Aside0.mk (blk_grown (g := gb217) (o := .cells #[.slice A0_0 l0_0.length c0_0, .slice A0_1 l0_1.length c0_1] 26 (0, 0)) (xb BK217.out) hg (Kd.R_ne HO225.out BK217.out (by decide))); replace BK218 := Aside0.mk (blk_grown (g := gb218) (o := .cells #[.int .i64 a1_0, .int .i64 a1_1] 41 (0, 0)) (xb BK218.out) hg (Kd.R_ne HO225.out BK218.out (by decide))); replace BK219 := Aside0.mk (blk_grown (g := gb219) (o := .cells #[.slice none 0 0, .slice none 0 0] 26 (0, 0)) (xb BK219.out) hg (Kd.R_ne HO225.out BK219.out (by decide))); replace HO222 := Aside0.mk (Kd.R_after (v := (.slice (some ⟨go8, 0, none⟩) t223.length co23)) (v1 := (.slice (some ⟨go8, 0, none⟩) t223.length co23)) (ok := (fun _ => True)) (xm HO222 (fun _ hk => ⟨trivial, hk⟩)) hg (.inl rfl)); replace BK227 := Aside0.mk (blk_grown (g := gb227) (o := .cells #[.slice Ao21 t220.length co21, .slice (some ⟨go8, 0, none⟩) t223.length co23] 26 (0, 0)) (xb BK227.out) hg (Kd.R_ne HO225.out BK227.out (by decide))); replace HO225 := Aside0.mk (hp_); replace HB := Aside0.mk ((by rw [hw]; exact below_set (HB.out) GB8.out : Below w.heap.size w w34)); clear hg hw hp_; have hcz35_0 : w34.cell? ⟨gb218, 0, none⟩ = some (.int .i64 a1_0) := (blk_cell BK218.out 0).trans rfl; have hcz35_1 : w34.cell? ⟨gb218, 1, none⟩ = some (.int .i64 a1_1) := (blk_cell BK218.out 1).trans rfl; have hfz35_0 := blk_frozen BK218.out 0; have hfz35_1 := blk_frozen BK218.out 1; have hcz36_0 : w34.cell? ⟨gb227, 0, none⟩ = some (.slice Ao21 t220.length co21) := (blk_cell BK227.out 0).trans rfl; have hcz36_1 : w34.cell? ⟨gb227, 1, none⟩ = some (.slice (some ⟨go8, 0, none⟩) t223.length co23) := (blk_cell BK227.out 1).trans rfl; have hfz36_0 := blk_frozen BK227.out 0; have hfz36_1 := blk_frozen BK227.out 1; have p230 : 0 ≤ (a1_1 : Int) := of_decide_eq_true (by first | (with_reducible assumption) | assumption); have q230 : a1_1 < (y229.length : Int) := (by have h_ : (a1_1 : Int) < ((t223.length : Int) : Int) := of_decide_eq_true (by first | (with_reducible assumption) | assumption); first | (have e_ := (Kd.R_reads' HO225.out).1; omega) | simpa only [Ny229.out, List.length_set] using h_); have ql230 : ((a1_1 : Int) < ((t223.length : Int) : Int)) = True := eq_true (of_decide_eq_true (by first | (with_reducible assumption) | assumption)); obtain ⟨ad230, e230, hx230_0⟩ := Kd.at_int (Kd.R_reads' HO225.out).2.2 a1_1 p230 q230; obtain rfl : (⟨go8, 0, none⟩ : Addr) = ad230 := (by injection e230); (first | simp only [add_plain] at hx230_0 | simp only [add_at] at hx230_0 | simp only [Addr.add, Nat.zero_add] at hx230_0 | skip); replace p230 := eq_true p230; replace q230 := eq_true q230; have p12 : 0 ≤ (a1_1 : Int) := of_decide_eq_true (by first | (with_reducible assumption) | assumption); have q12 : (a1_1 : Int) < ((t223.length : Int) : Int) := of_decide_eq_true (by first | (with_reducible assumption) | assumption); obtain ⟨hx12_0, hf12_0⟩ := Kd.R_celln 0 HO225.out (a1_1 : Int) p12 q12; replace p12 := eq_true p12; replace q12 := eq_true q12; obtain ⟨hy37_, hz37_⟩ := Kd.R_celln 0 HO225.out (a1_1 : Int) (of_decide_eq_true (by first | (with_reducible assumption) | assumption)) (of_decide_eq_true (by first | (with_reducible assumption) | assumption)); have HP37 := Kd.R_putg HO225.out (a1_1 : Int) (wrap64 ((rd y229 a1_1) + t226))) | ((with_reducible refine gate_store (t := 3) (p := 35) rfl ?_); refine store_event (t := 3) (p := 35) (v := ?vo_w38) (w1 := (w34.setCell ⟨go8, (a1_1 : Int).toNat, none⟩ (.int .i64 (wrap64 ((rd y229 a1_1) + t226))))) ?hg ?ho ?hn ?hr ?_; (case ho => rfl); (case hg => rfl); (case hn => rfl); (case hr => first | (go_simp; done) | (go_simp; rfl)); intro w38 hw; have hg : w34.grownBy w38 (some go8) := (by rw [hw]; exact HP37.2); have hp_ : Kd.R (Kd.int .i64) 3 w38 w.heap.size (fun k_ => nS k_ Ao21 t220.length co21) (.slice (some ⟨go8, 0, none⟩) t223.length co23) y231 := (by rw [hw, Ny231.out]; exact HP37.1); clear HP37; replace BK217 := Aside0.mk (blk_grown (g := gb217) (o := .cells #[.slice A0_0 l0_0.length c0_0, .slice A0_1 l0_1.length c0_1] 26 (0, 0)) (xb BK217.out) hg (Kd.R_ne HO225.out BK217.out (by decide))); replace BK218 := Aside0.mk (blk_grown (g := gb218) (o := .cells #[.int .i64 a1_0, .int .i64 a1_1] 41 (0, 0)) (xb BK218.out) hg (Kd.R_ne HO225.out BK218.out (by decide))); replace BK219 := Aside0.mk (blk_grown (g := gb219) (o := .cells #[.slice none 0 0, .slice none 0 0] 26 (0, 0)) (xb BK219.out) hg (Kd.R_ne HO225.out BK219.out (by decide))); replace HO222 := Aside0.mk (Kd.R_after (v := (.slice (some ⟨go8, 0, none⟩) t223.length co23)) (v1 := (.slice (some ⟨go8, 0, none⟩) t223.length co23)) (ok := (fun _ => True)) (xr HO222.out) hg (.inl rfl)); replace BK227 := Aside0.mk (blk_grown (g := gb227) (o := .cells #[.slice Ao21 t220.length co21, .slice (some ⟨go8, 0, none⟩) t223.length co23] 26 (0, 0)) (xb BK227.out) hg (Kd.R_ne HO225.out BK227.out (by decide))); replace HO225 := Aside0.mk (hp_); replace HB := Aside0.mk ((by rw [hw]; exact below_set (HB.out) GB8.out : Below w.heap.size w w38)); clear hg hw hp_; have hcz39_0 : w38.cell? ⟨gb227, 0, none⟩ = some (.slice Ao21 t220.length co21) := (blk_cell BK227.out 0).trans rfl; have hcz39_1 : w38.cell? ⟨gb227, 1, none⟩ = some (.slice (some ⟨go8, 0, none⟩) t223.length co23) := (blk_cell BK227.out 1).trans rfl; have hfz39_0 := blk_frozen BK227.out 0; have hfz39_1 := blk_frozen BK227.out 1; have hnb40 := NB219_217.out; have hnc40 := NB217_219.out; have hcz41_0 : w38.cell? ⟨gb219, 0, none⟩ = some (.slice none 0 0) := (blk_cell BK219.out 0).trans rfl; have hcz41_1 : w38.cell? ⟨gb219, 1, none⟩ = some (.slice none 0 0) := (blk_cell BK219.out 1).trans rfl; have hfz41_0 := blk_frozen BK219.out 0; have hfz41_1 := blk_frozen BK219.out 1))
       refine bodyPost_ret (results_cell_row rfl _ _ gb219 26 #[.slice Ao21 t220.length co21, .slice (some ⟨go8, 0, none⟩) t223.length co23] (0, 0) _ rfl (by (with_reducible repeat (first | refine blk_drewN ?_ _ | refine blk_drew ?_ | refine blk_alloc ?_ _)); refine blk_put (cs := #[.slice Ao21 t220.length co21, .slice none 0 0]) ?_ 1 _ rfl; (with_reducible repeat (first | refine blk_drewN ?_ _ | refine blk_drew ?_ | refine blk_alloc ?_ _)); refine blk_put (cs := #[.slice none 0 0, .slice none 0 0]) ?_ 0 _ rfl; (with_reducible repeat (first | refine blk_drewN ?_ _ | refine blk_drew ?_ | refine blk_alloc ?_ _)); exact BK219.out) Try.underlying26 rfl (by kernel_rfl)) rfl ?_
       exact ⟨_, _, by first | rfl | (simp [errW_none, errW_some] <;> rfl) | (simp [*, errW_none, errW_some] <;> rfl), by (with_reducible repeat (first | apply Kd.R_alloc | apply Kd.R_drewN | apply Kd.R_drew)); exact Kd.R_mono (Kd.R_far (p := ⟨gb219, 1, none⟩) (Kd.R_far (p := ⟨gb219, 0, none⟩) (Kd.R_types HO222.out BK219.out (by decide)) (fun _ hk => hk.2) (.slice Ao21 t220.length co21)) (fun _ hk => hk.2) (.slice (some ⟨go8, 0, none⟩) t223.length co23)) (fun _ hk => hk.1.2), by (with_reducible repeat (first | apply Kd.R_alloc | apply Kd.R_drewN | apply Kd.R_drew)); exact Kd.R_mono (Kd.R_far (p := ⟨gb219, 1, none⟩) (Kd.R_far (p := ⟨gb219, 0, none⟩) (Kd.R_types HO225.out BK219.out (by decide)) (fun _ hk => hk.2) (.slice Ao21 t220.length co21)) (fun _ hk => hk.2) (.slice (some ⟨go8, 0, none⟩) t223.length co23)) (fun _ hk => hk.1), by repeat (first | (with_reducible first | exact HB.out | apply below_alloc | apply pw_below_drewN | apply below_drew1 | refine below_set ?_ GE217.out | refine below_set ?_ GE218.out | refine below_set ?_ GE219.out | refine below_set ?_ GE227.out) | exact HB.out)⟩
      ·rw [if_neg c11] at H
       exact absurd H (by simp)
     ·rw [if_neg c10] at H
      exact absurd H (by simp)
    ·rw [if_neg c9] at H
     have c9b0 : decide (0 ≤ a1_1) = false := decide_eq_false c9
     clear c9
     simp only [Option.some.injEq, Prod.mk.injEq] at H
     obtain ⟨rfl, rfl⟩ := H
     go_enter Try.func78, Try.ntmps78
     try go_wp2_with (first | ((with_reducible refine gate_dst (N := 2) rfl ?_); refine box_event ?hg (N := 2) ?hd (cs := #[.slice A0_0 l0_0.length c0_0, .slice A0_1 l0_1.length c0_1]) (t := 26) ?hr ?_; (case hd => rfl); (case hg => rfl); (case hr => first | (go_simp; done) | (go_simp; rfl)); intro gb217 hg w42 hbox hb; have BK217 := Aside0.mk (hbox); have GW217 := xg HB hg; have GE217 := xg HB hg; replace HB := xp HB hb; clear hb hbox hg) | ((with_reducible refine gate_dst (N := 3) rfl ?_); refine box_event ?hg (N := 3) ?hd (cs := #[.int .i64 a1_0, .int .i64 a1_1]) (t := 41) ?hr ?_; (case hd => rfl); (case hg => rfl); (case hr => first | (go_simp; done) | (go_simp; rfl)); intro gb218 hg w43 hbox hb; have BK218 := Aside0.mk (hbox); have GW218 := xg HB hg; have GE218 := xg HB hg; replace HB := xp HB hb; have NB217_218 := xl BK217 hg; have NB218_217 := xh BK217 hg; replace BK217 := xk BK217 hb; clear hb hbox hg) | ((with_reducible refine gate_dst (N := 4) rfl ?_); refine box_event ?hg (N := 4) ?hd (cs := #[.slice none 0 0, .slice none 0 0]) (t := 26) ?hr ?_; (case hd => rfl); (case hg => rfl); (case hr => first | (go_simp; done) | (go_simp; rfl)); intro gb219 hg w44 hbox hb; have BK219 := Aside0.mk (hbox); have GW219 := xg HB hg; have GE219 := xg HB hg; replace HB := xp HB hb; have NB217_219 := xl BK217 hg; have NB219_217 := xh BK217 hg; replace BK217 := xk BK217 hb; have NB218_219 := xl BK218 hg; have NB219_218 := xh BK218 hg; replace BK218 := xk BK218 hb; clear hb hbox hg))
     replace BK217 := xv BK217
     replace BK218 := xv BK218
     replace BK219 := xv BK219
     replace HB := Aside0.mk (below_drew1 HB.out)
     refine start_ (n := 8) (S := fun w' => w'.cell? ⟨gb217, 0, none⟩ = some (.slice A0_0 l0_0.length c0_0) ∧ w'.cell? ⟨gb217, 1, none⟩ = some (.slice A0_1 l0_1.length c0_1) ∧ w'.cell? ⟨gb218, 0, none⟩ = some (.int .i64 a1_0) ∧ w'.cell? ⟨gb218, 1, none⟩ = some (.int .i64 a1_1)) (ds := []) #[false, false, false, false, false, false, false, false] (by kernel_rfl) rfl rfl ⟨(blk_cell BK217.out 0).trans rfl, (blk_cell BK217.out 1).trans rfl, (blk_cell BK218.out 0).trans rfl, (blk_cell BK218.out 1).trans rfl⟩ (fun hHeld => ?_); refine with_tabW impl_Vessels_behind.tab1 impl_Vessels_behind.bits1 (fun HT_ HW_ => ?_)
     generalize w44.drew = w45 at BK217 BK218 BK219 HB hHeld ⊢
     refine take_ (i := 0) (N := some 7) (v := ?_) (a' := ?_) #[true, false, false, false, false, false, false, false] rfl rfl (take_ofW HT_.out HW_.out (by kernel_rfl)) (fun _ _ _ h => h) (Or.inl ⟨by rfl, ?_⟩) hHeld ?_ ?_
     rotate_left
     ·rintro w' ⟨s0, s1, s2, s3⟩
      go_simp
      with_reducible rfl
     rotate_left
     ·simp only [Act.put, List.setIfInBounds_toArray, List.set_cons_zero, List.set_cons_succ, i64_w, i32_w]
      rfl
     refine take_ (i := 2) (N := some 9) (v := ?_) (a' := ?_) #[true, false, true, false, false, false, false, false] rfl rfl (take_ofW HT_.out HW_.out (by kernel_rfl)) (fun _ _ _ h => h) (Or.inl ⟨by rfl, ?_⟩) hHeld ?_ ?_
     rotate_left
     ·rintro w' ⟨s0, s1, s2, s3⟩
      go_simp
      with_reducible rfl
     rotate_left
     ·simp only [Act.put, List.setIfInBounds_toArray, List.set_cons_zero, List.set_cons_succ, i64_w, i32_w]
      rfl
     refine take_ (i := 3) (N := some 10) (v := ?_) (a' := ?_) #[true, false, true, true, false, false, false, false] rfl rfl (take_ofW HT_.out HW_.out (by kernel_rfl)) (fun _ _ _ h => h) (Or.inl ⟨by rfl, ?_⟩) hHeld ?_ ?_
     rotate_left
     ·rintro w' ⟨s0, s1, s2, s3⟩
      go_simp
      with_reducible rfl
     rotate_left
     ·simp only [Act.put, List.setIfInBounds_toArray, List.set_cons_zero, List.set_cons_succ, i64_w, i32_w]
      rfl
     refine join_ (σ := Value × Value × Nat) 2 #[true, true, true, true, true, true, false, false] (fun s_ => [(8, .agg #[s_.1, s_.2.1]), (11, .int .i64 t226), (5, .pointer (some ⟨s_.2.2, 0, none⟩))]) (fun s_ w' => (w'.cell? ⟨gb217, 0, none⟩ = some (.slice A0_0 l0_0.length c0_0) ∧ w'.cell? ⟨gb217, 1, none⟩ = some (.slice A0_1 l0_1.length c0_1) ∧ w'.cell? ⟨gb218, 0, none⟩ = some (.int .i64 a1_0) ∧ w'.cell? ⟨gb218, 1, none⟩ = some (.int .i64 a1_1)) ∧ (Kd.R (Kd.int .i64) 3 w' w.heap.size (fun k_ => some k_ ≠ (s_.2.1 : Value).ownBlock) s_.1 t220) ∧ (Kd.R (Kd.int .i64) 3 w' w.heap.size (fun k_ => some k_ ≠ (s_.1 : Value).ownBlock) s_.2.1 t223) ∧ (w'.heap[gb217]? = some (.cells #[.slice A0_0 l0_0.length c0_0, .slice A0_1 l0_1.length c0_1] 26 (0, 0))) ∧ (w'.heap[gb218]? = some (.cells #[.int .i64 a1_0, .int .i64 a1_1] 41 (0, 0))) ∧ (w'.heap[gb219]? = some (.cells #[.slice none 0 0, .slice none 0 0] 26 (0, 0))) ∧ (w'.heap[s_.2.2]? = some (.cells #[.slice none 0 0, .slice none 0 0] 26 (0, 0))) ∧ (w.heap.size ≤ s_.2.2) ∧ (w.heap.size ≤ s_.2.2) ∧ (gb217 ≠ s_.2.2) ∧ (s_.2.2 ≠ gb217) ∧ (gb218 ≠ s_.2.2) ∧ (s_.2.2 ≠ gb218) ∧ (gb219 ≠ s_.2.2) ∧ (s_.2.2 ≠ gb219) ∧ (Below w.heap.size w w')) ?_ ?_
     rotate_left
     ·intro hCont
      refine two_ (i := 1) (j := 5) (Ni := some 8) (Nj := some 5) #[true, true, true, true, false, false, false, false] #[true, false, true, true, false, true, false, false] rfl rfl rfl rfl (two_of HT_.out (by kernel_rfl)) (by decide) (by decide) (fun K hK => ?_) (fun K hK => ?_)
      ·skip
       refine goes_ Try.func65 (by kernel_rfl) rfl #[.agg #[.slice A0_0 l0_0.length c0_0, .slice A0_1 l0_1.length c0_1]] (by rfl) rfl rfl (by (try simp only [List.map_toArray, List.map_cons, List.map_nil]); first | done | rfl | (simp only [List.length_drop, List.length_take]; rfl)) ?_
       with_reducible refine (impl_Vessels_own.calls _ _ l0_0 _ _ l0_1 t220 t223 _ ?side1 ?side2 ?side3 ?side4 A3.out).mono ?_
       (case side1 => exact xd ((Kd.C_below HR0_0.out HB.out)))
       (case side2 => exact HC0_0.out)
       (case side3 => exact xd ((Kd.C_below HR0_1.out HB.out)))
       (case side4 => exact HC0_1.out)
       rintro e w46 ⟨v221, v224, rfl, ho0, ho1, hb⟩
       refine ⟨_, rfl, ?_⟩
       have HO222 := Aside0.mk (Kd.R_lower ho0 (below_size (xs HB.out)))
       have HO225 := Aside0.mk (Kd.R_lower ho1 (below_size (xs HB.out)))
       replace BK217 := xk BK217 hb
       replace BK218 := xk BK218 hb
       replace BK219 := xk BK219 hb
       replace HB := xp HB hb
       (try clear hb)
       (try clear hb2)
       (try clear hk)
       (try clear hi)
       (try clear ho0)
       (try clear ho1)
       refine hK.out _ _ ⟨(blk_cell BK217.out 0).trans rfl, (blk_cell BK217.out 1).trans rfl, (blk_cell BK218.out 0).trans rfl, (blk_cell BK218.out 1).trans rfl⟩ (fun hHeld => ?_)
       clear hK K
       refine norm_ (a' := ?_) ?_ ?_
       rotate_left
       ·show Act.put _ (some 8) _ = _
        simp only [Act.put, List.setIfInBounds_toArray, List.set_cons_zero, List.set_cons_succ, i64_w, i32_w]
        rfl
       refine two_ (i := 4) (j := 5) (Ni := some 11) (Nj := some 5) #[true, true, true, true, true, false, false, false] #[true, true, true, true, false, true, false, false] rfl rfl rfl rfl (two_of HT_.out (by kernel_rfl)) (by decide) (by decide) (fun K hK => ?_) (fun K hK => ?_)
       ·skip
        refine goes_ Try.func83 (by kernel_rfl) rfl #[.agg #[.slice A0_0 l0_0.length c0_0, .slice A0_1 l0_1.length c0_1], .agg #[.int .i64 a1_0, .int .i64 a1_1]] (by rfl) rfl rfl (by (try simp only [List.map_toArray, List.map_cons, List.map_nil]); first | done | rfl | (simp only [List.length_drop, List.length_take]; rfl)) ?_
        with_reducible refine (impl_Vessels_amount.calls _ _ l0_0 _ _ l0_1 a1_0 a1_1 t226 _ ?side1 ?side2 ?side3 ?side4 A4.out).mono ?_
        (case side1 => exact xd ((Kd.C_below HR0_0.out HB.out)))
        (case side2 => exact HC0_0.out)
        (case side3 => exact xd ((Kd.C_below HR0_1.out HB.out)))
        (case side4 => exact HC0_1.out)
        rintro e w47 ⟨rfl, hb⟩
        refine ⟨_, rfl, ?_⟩
        replace HO222 := xq HO222 hb
        replace HO225 := xq HO225 hb
        replace BK217 := xk BK217 hb
        replace BK218 := xk BK218 hb
        replace BK219 := xk BK219 hb
        replace HB := xp HB hb
        (try clear hb)
        (try clear hb2)
        (try clear hk)
        (try clear hi)
        refine hK.out _ _ ⟨(blk_cell BK217.out 0).trans rfl, (blk_cell BK217.out 1).trans rfl, (blk_cell BK218.out 0).trans rfl, (blk_cell BK218.out 1).trans rfl⟩ (fun hHeld => ?_)
        clear hK K
        refine norm_ (a' := ?_) ?_ ?_
        rotate_left
        ·show Act.put _ (some 11) _ = _
         simp only [Act.put, List.setIfInBounds_toArray, List.set_cons_zero, List.set_cons_succ, i64_w, i32_w]
         rfl
        refine one_ (i := 5) (N := some 5) #[true, true, true, true, true, true, false, false] rfl rfl (one_of HT_.out (by kernel_rfl)) (by decide) (fun K hK => ?_)
        refine box_step ?hg (N := 5) ?hd (cs := #[.slice none 0 0, .slice none 0 0]) (t := 26) ?hr ?_; (case hd => rfl); (case hg => rfl); (case hr => first | (go_simp; done) | (go_simp; rfl))
        intro gb227 hg w48 hbox hb
        replace HO222 := xq HO222 hb
        replace HO225 := xq HO225 hb
        have BK227 := Aside0.mk (hbox)
        have GW227 := xg HB hg
        have GE227 := xg HB hg
        replace HB := xp HB hb
        have NB217_227 := xl BK217 hg
        have NB227_217 := xh BK217 hg
        replace BK217 := xk BK217 hb
        have NB218_227 := xl BK218 hg
        have NB227_218 := xh BK218 hg
        replace BK218 := xk BK218 hb
        have NB219_227 := xl BK219 hg
        have NB227_219 := xh BK219 hg
        replace BK219 := xk BK219 hb
        clear hb hbox hg
        refine hK.out _ _ ⟨(blk_cell BK217.out 0).trans rfl, (blk_cell BK217.out 1).trans rfl, (blk_cell BK218.out 0).trans rfl, (blk_cell BK218.out 1).trans rfl⟩ (fun hHeld => ?_)
        clear hK K
        refine norm_ (a' := ?_) ?_ ?_
        rotate_left
        ·show Act.put _ (some 5) _ = _
         simp only [Act.put, List.setIfInBounds_toArray, List.set_cons_zero, List.set_cons_succ, i64_w, i32_w]
         rfl
        exact norm_ (by simp only [putAll, Act.put, List.setIfInBounds_toArray, List.set_cons_zero, List.set_cons_succ]) (hCont (v221, v224, gb227) _ ⟨hHeld, (xr HO222.out), (xr HO225.out), (xb BK217.out), (xb BK218.out), (xb BK219.out), (xb BK227.out), GW227.out, GE227.out, NB217_227.out, NB227_217.out, NB218_227.out, NB227_218.out, NB219_227.out, NB227_219.out, (xs HB.out)⟩)
       ·skip
        refine box_step ?hg (N := 5) ?hd (cs := #[.slice none 0 0, .slice none 0 0]) (t := 26) ?hr ?_; (case hd => rfl); (case hg => rfl); (case hr => first | (go_simp; done) | (go_simp; rfl))
        intro gb227 hg w47 hbox hb
        replace HO222 := xq HO222 hb
        replace HO225 := xq HO225 hb
        have BK227 := Aside0.mk (hbox)
        have GW227 := xg HB hg
        have GE227 := xg HB hg
        replace HB := xp HB hb
        have NB217_227 := xl BK217 hg
        have NB227_217 := xh BK217 hg
        replace BK217 := xk BK217 hb
        have NB218_227 := xl BK218 hg
        have NB227_218 := xh BK218 hg
        replace BK218 := xk BK218 hb
        have NB219_227 := xl BK219 hg
        have NB227_219 := xh BK219 hg
        replace BK219 := xk BK219 hb
        clear hb hbox hg
        refine hK.out _ _ ⟨(blk_cell BK217.out 0).trans rfl, (blk_cell BK217.out 1).trans rfl, (blk_cell BK218.out 0).trans rfl, (blk_cell BK218.out 1).trans rfl⟩ (fun hHeld => ?_)
        clear hK K
        refine norm_ (a' := ?_) ?_ ?_
        rotate_left
        ·show Act.put _ (some 5) _ = _
         simp only [Act.put, List.setIfInBounds_toArray, List.set_cons_zero, List.set_cons_succ, i64_w, i32_w]
         rfl
        refine one_ (i := 4) (N := some 11) #[true, true, true, true, true, true, false, false] rfl rfl (one_of HT_.out (by kernel_rfl)) (by decide) (fun K hK => ?_)
        refine goes_ Try.func83 (by kernel_rfl) rfl #[.agg #[.slice A0_0 l0_0.length c0_0, .slice A0_1 l0_1.length c0_1], .agg #[.int .i64 a1_0, .int .i64 a1_1]] (by rfl) rfl rfl (by (try simp only [List.map_toArray, List.map_cons, List.map_nil]); first | done | rfl | (simp only [List.length_drop, List.length_take]; rfl)) ?_
        with_reducible refine (impl_Vessels_amount.calls _ _ l0_0 _ _ l0_1 a1_0 a1_1 t226 _ ?side1 ?side2 ?side3 ?side4 A4.out).mono ?_
        (case side1 => exact xd ((Kd.C_below HR0_0.out HB.out)))
        (case side2 => exact HC0_0.out)
        (case side3 => exact xd ((Kd.C_below HR0_1.out HB.out)))
        (case side4 => exact HC0_1.out)
        rintro e w48 ⟨rfl, hb⟩
        refine ⟨_, rfl, ?_⟩
        replace HO222 := xq HO222 hb
        replace HO225 := xq HO225 hb
        replace BK217 := xk BK217 hb
        replace BK218 := xk BK218 hb
        replace BK219 := xk BK219 hb
        replace BK227 := xk BK227 hb
        replace HB := xp HB hb
        (try clear hb)
        (try clear hb2)
        (try clear hk)
        (try clear hi)
        refine hK.out _ _ ⟨(blk_cell BK217.out 0).trans rfl, (blk_cell BK217.out 1).trans rfl, (blk_cell BK218.out 0).trans rfl, (blk_cell BK218.out 1).trans rfl⟩ (fun hHeld => ?_)
        clear hK K
        refine norm_ (a' := ?_) ?_ ?_
        rotate_left
        ·show Act.put _ (some 11) _ = _
         simp only [Act.put, List.setIfInBounds_toArray, List.set_cons_zero, List.set_cons_succ, i64_w, i32_w]
         rfl
        exact norm_ (by simp only [putAll, Act.put, List.setIfInBounds_toArray, List.set_cons_zero, List.set_cons_succ]) (hCont (v221, v224, gb227) _ ⟨hHeld, (xr HO222.out), (xr HO225.out), (xb BK217.out), (xb BK218.out), (xb BK219.out), (xb BK227.out), GW227.out, GE227.out, NB217_227.out, NB227_217.out, NB218_227.out, NB227_218.out, NB219_227.out, NB227_219.out, (xs HB.out)⟩)
      ·skip
       refine box_step ?hg (N := 5) ?hd (cs := #[.slice none 0 0, .slice none 0 0]) (t := 26) ?hr ?_; (case hd => rfl); (case hg => rfl); (case hr => first | (go_simp; done) | (go_simp; rfl))
       intro gb227 hg w46 hbox hb
       have BK227 := Aside0.mk (hbox)
       have GW227 := xg HB hg
       have GE227 := xg HB hg
       replace HB := xp HB hb
       have NB217_227 := xl BK217 hg
       have NB227_217 := xh BK217 hg
       replace BK217 := xk BK217 hb
       have NB218_227 := xl BK218 hg
       have NB227_218 := xh BK218 hg
       replace BK218 := xk BK218 hb
       have NB219_227 := xl BK219 hg
       have NB227_219 := xh BK219 hg
       replace BK219 := xk BK219 hb
       clear hb hbox hg
       refine hK.out _ _ ⟨(blk_cell BK217.out 0).trans rfl, (blk_cell BK217.out 1).trans rfl, (blk_cell BK218.out 0).trans rfl, (blk_cell BK218.out 1).trans rfl⟩ (fun hHeld => ?_)
       clear hK K
       refine norm_ (a' := ?_) ?_ ?_
       rotate_left
       ·show Act.put _ (some 5) _ = _
        simp only [Act.put, List.setIfInBounds_toArray, List.set_cons_zero, List.set_cons_succ, i64_w, i32_w]
        rfl
       refine one_ (i := 1) (N := some 8) #[true, true, true, true, false, true, false, false] rfl rfl (one_of HT_.out (by kernel_rfl)) (by decide) (fun K hK => ?_)
       refine goes_ Try.func65 (by kernel_rfl) rfl #[.agg #[.slice A0_0 l0_0.length c0_0, .slice A0_1 l0_1.length c0_1]] (by rfl) rfl rfl (by (try simp only [List.map_toArray, List.map_cons, List.map_nil]); first | done | rfl | (simp only [List.length_drop, List.length_take]; rfl)) ?_
       with_reducible refine (impl_Vessels_own.calls _ _ l0_0 _ _ l0_1 t220 t223 _ ?side1 ?side2 ?side3 ?side4 A3.out).mono ?_
       (case side1 => exact xd ((Kd.C_below HR0_0.out HB.out)))
       (case side2 => exact HC0_0.out)
       (case side3 => exact xd ((Kd.C_below HR0_1.out HB.out)))
       (case side4 => exact HC0_1.out)
       rintro e w47 ⟨v221, v224, rfl, ho0, ho1, hb⟩
       refine ⟨_, rfl, ?_⟩
       have HO222 := Aside0.mk (Kd.R_lower ho0 (below_size (xs HB.out)))
       have HO225 := Aside0.mk (Kd.R_lower ho1 (below_size (xs HB.out)))
       replace BK217 := xk BK217 hb
       replace BK218 := xk BK218 hb
       replace BK219 := xk BK219 hb
       replace BK227 := xk BK227 hb
       replace HB := xp HB hb
       (try clear hb)
       (try clear hb2)
       (try clear hk)
       (try clear hi)
       (try clear ho0)
       (try clear ho1)
       refine hK.out _ _ ⟨(blk_cell BK217.out 0).trans rfl, (blk_cell BK217.out 1).trans rfl, (blk_cell BK218.out 0).trans rfl, (blk_cell BK218.out 1).trans rfl⟩ (fun hHeld => ?_)
       clear hK K
       refine norm_ (a' := ?_) ?_ ?_
       rotate_left
       ·show Act.put _ (some 8) _ = _
        simp only [Act.put, List.setIfInBounds_toArray, List.set_cons_zero, List.set_cons_succ, i64_w, i32_w]
        rfl
       refine one_ (i := 4) (N := some 11) #[true, true, true, true, true, true, false, false] rfl rfl (one_of HT_.out (by kernel_rfl)) (by decide) (fun K hK => ?_)
       refine goes_ Try.func83 (by kernel_rfl) rfl #[.agg #[.slice A0_0 l0_0.length c0_0, .slice A0_1 l0_1.length c0_1], .agg #[.int .i64 a1_0, .int .i64 a1_1]] (by rfl) rfl rfl (by (try simp only [List.map_toArray, List.map_cons, List.map_nil]); first | done | rfl | (simp only [List.length_drop, List.length_take]; rfl)) ?_
       with_reducible refine (impl_Vessels_amount.calls _ _ l0_0 _ _ l0_1 a1_0 a1_1 t226 _ ?side1 ?side2 ?side3 ?side4 A4.out).mono ?_
       (case side1 => exact xd ((Kd.C_below HR0_0.out HB.out)))
       (case side2 => exact HC0_0.out)
       (case side3 => exact xd ((Kd.C_below HR0_1.out HB.out)))
       (case side4 => exact HC0_1.out)
       rintro e w48 ⟨rfl, hb⟩
       refine ⟨_, rfl, ?_⟩
       replace HO222 := xq HO222 hb
       replace HO225 := xq HO225 hb
       replace BK217 := xk BK217 hb
       replace BK218 := xk BK218 hb
       replace BK219 := xk BK219 hb
       replace BK227 := xk BK227 hb
       replace HB := xp HB hb
       (try clear hb)
       (try clear hb2)
       (try clear hk)
       (try clear hi)
       refine hK.out _ _ ⟨(blk_cell BK217.out 0).trans rfl, (blk_cell BK217.out 1).trans rfl, (blk_cell BK218.out 0).trans rfl, (blk_cell BK218.out 1).trans rfl⟩ (fun hHeld => ?_)
       clear hK K
       refine norm_ (a' := ?_) ?_ ?_
       rotate_left
       ·show Act.put _ (some 11) _ = _
        simp only [Act.put, List.setIfInBounds_toArray, List.set_cons_zero, List.set_cons_succ, i64_w, i32_w]
        rfl
       exact norm_ (by simp only [putAll, Act.put, List.setIfInBounds_toArray, List.set_cons_zero, List.set_cons_succ]) (hCont (v221, v224, gb227) _ ⟨hHeld, (xr HO222.out), (xr HO225.out), (xb BK217.out), (xb BK218.out), (xb BK219.out), (xb BK227.out), GW227.out, GE227.out, NB217_227.out, NB227_217.out, NB218_227.out, NB227_218.out, NB219_227.out, NB227_219.out, (xs HB.out)⟩)
     rintro ⟨v221, v224, gb227⟩ w49 ⟨hS_, h0_, h1_, h2_, h3_, h4_, h5_, h6_, h7_, h8_, h9_, h10_, h11_, h12_, h13_, h14_⟩
     have n0_ : Aside0 (Kd.R (Kd.int .i64) 3 w49 w.heap.size (fun k_ => nV k_ v224) v221 t220) := ⟨h0_⟩
     have n1_ : Aside0 (Kd.R (Kd.int .i64) 3 w49 w.heap.size (fun k_ => nV k_ v221) v224 t223) := ⟨h1_⟩
     have n2_ : Aside0 (w49.heap[gb217]? = some (.cells #[.slice A0_0 l0_0.length c0_0, .slice A0_1 l0_1.length c0_1] 26 (0, 0))) := ⟨h2_⟩
     have n3_ : Aside0 (w49.heap[gb218]? = some (.cells #[.int .i64 a1_0, .int .i64 a1_1] 41 (0, 0))) := ⟨h3_⟩
     have n4_ : Aside0 (w49.heap[gb219]? = some (.cells #[.slice none 0 0, .slice none 0 0] 26 (0, 0))) := ⟨h4_⟩
     have n5_ : Aside0 (w49.heap[gb227]? = some (.cells #[.slice none 0 0, .slice none 0 0] 26 (0, 0))) := ⟨h5_⟩
     have n6_ : Aside0 (w.heap.size ≤ gb227) := ⟨h6_⟩
     have n7_ : Aside0 (w.heap.size ≤ gb227) := ⟨h7_⟩
     have n8_ : Aside0 (gb217 ≠ gb227) := ⟨h8_⟩
     have n9_ : Aside0 (gb227 ≠ gb217) := ⟨h9_⟩
     have n10_ : Aside0 (gb218 ≠ gb227) := ⟨h10_⟩
     have n11_ : Aside0 (gb227 ≠ gb218) := ⟨h11_⟩
     have n12_ : Aside0 (gb219 ≠ gb227) := ⟨h12_⟩
     have n13_ : Aside0 (gb227 ≠ gb219) := ⟨h13_⟩
     have n14_ : Aside0 (Below w.heap.size w w49) := ⟨h14_⟩
     clear BK217
     clear BK218
     clear BK219
     clear HB
     clear h0_ h1_ h2_ h3_ h4_ h5_ h6_ h7_ h8_ h9_ h10_ h11_ h12_ h13_ h14_
     have HO222 := n0_
     have HO225 := n1_
     have BK217 := n2_
     have BK218 := n3_
     have BK219 := n4_
     have BK227 := n5_
     have GW227 := n6_
     have GE227 := n7_
     have NB217_227 := n8_
     have NB227_217 := n9_
     have NB218_227 := n10_
     have NB227_218 := n11_
     have NB219_227 := n12_
     have NB227_219 := n13_
     have HB := n14_
     clear n0_ n1_ n2_ n3_ n4_ n5_ n6_ n7_ n8_ n9_ n10_ n11_ n12_ n13_ n14_
     have hHeld : w49.cell? ⟨gb217, 0, none⟩ = some (.slice A0_0 l0_0.length c0_0) ∧ w49.cell? ⟨gb217, 1, none⟩ = some (.slice A0_1 l0_1.length c0_1) ∧ w49.cell? ⟨gb218, 0, none⟩ = some (.int .i64 a1_0) ∧ w49.cell? ⟨gb218, 1, none⟩ = some (.int .i64 a1_1) := hS_
     obtain ⟨Ao50, co50, eo50⟩ := Kd.R_slice HO222.out
     (first | subst eo50 | (injection eo50 with f1_ f2_ f3_; have f4_ := f1_.symm; have f5_ := f3_.symm; clear f1_ f2_ f3_; subst f4_; subst f5_))
     obtain ⟨Ao52, co52, eo52⟩ := Kd.R_slice HO225.out
     (first | subst eo52 | (injection eo52 with f1_ f2_ f3_; have f4_ := f1_.symm; have f5_ := f3_.symm; clear f1_ f2_ f3_; subst f4_; subst f5_))
     refine norm_ (a' := ?_) ?_ ?_
     rotate_left
     ·simp only [putAll, Act.put, List.setIfInBounds_toArray, List.set_cons_zero, List.set_cons_succ]
      rfl
     refine one_ (i := 6) (N := none) #[true, true, true, true, true, true, true, false] rfl rfl (one_of HT_.out (by kernel_rfl)) (by decide) (fun K hK => ?_)
     have hs51 : w49.cell? ⟨gb227, 0, none⟩ = some (.slice none 0 0) := (blk_cell BK227.out 0).trans rfl
     have hfs51 := blk_frozen BK227.out 0
     have hns51_0 := NB217_227.out
     have hns51_1 := NB218_227.out
     have hns51_2 := NB219_227.out
     have hms51_0 := NB227_217.out
     have hms51_1 := NB227_218.out
     have hms51_2 := NB227_219.out
     have hs53 : w49.cell? ⟨gb227, 1, none⟩ = some (.slice none 0 0) := (blk_cell BK227.out 1).trans rfl
     have hfs53 := blk_frozen BK227.out 1
     have hns53_0 := NB217_227.out
     have hns53_1 := NB218_227.out
     have hns53_2 := NB219_227.out
     have hms53_0 := NB227_217.out
     have hms53_1 := NB227_218.out
     have hms53_2 := NB227_219.out
     refine skip_ (w1 := ?_) (by rfl) rfl ?_ ?_
     rotate_left
     ·go_simp
      rfl
     refine hK.out _ _ ⟨((cell_far (p := ⟨gb227, _, none⟩) NB217_227.out _).trans (((cell_far (p := ⟨gb227, _, none⟩) NB217_227.out _).trans (hHeld.1)))), ((cell_far (p := ⟨gb227, _, none⟩) NB217_227.out _).trans (((cell_far (p := ⟨gb227, _, none⟩) NB217_227.out _).trans (hHeld.2.1)))), ((cell_far (p := ⟨gb227, _, none⟩) NB218_227.out _).trans (((cell_far (p := ⟨gb227, _, none⟩) NB218_227.out _).trans (hHeld.2.2.1)))), ((cell_far (p := ⟨gb227, _, none⟩) NB218_227.out _).trans (((cell_far (p := ⟨gb227, _, none⟩) NB218_227.out _).trans (hHeld.2.2.2))))⟩ (fun hHeld => ?_)
     clear hK K
     refine pure_ (i := 7) (N := some 6) (v := ?_) (a' := ?_) #[true, true, true, true, true, true, true, true] rfl rfl (any_of HT_.out (by kernel_rfl)) (fun _ _ _ h => h) (Or.inl ⟨by rfl, ?_⟩) ?_ ?_
     rotate_left
     ·intro w'
      go_simp
      with_reducible rfl
     rotate_left
     ·simp only [Act.put, List.setIfInBounds_toArray, List.set_cons_zero, List.set_cons_succ, i64_w, i32_w]
      rfl
     refine done_ (done_of HT_.out (by kernel_rfl)) ?_
     have n0_ : Aside0 (Kd.R (Kd.int .i64) 3 ((w49.setCell ⟨gb227, 0, none⟩ (.slice Ao50 t220.length co50)).setCell ⟨gb227, 1, none⟩ (.slice Ao52 t223.length co52)) w.heap.size (fun k_ => nS k_ Ao52 t223.length co52) (.slice Ao50 t220.length co50) t220) := ⟨by (with_reducible repeat (first | apply Kd.R_alloc | apply Kd.R_drewN | apply Kd.R_drew)); exact Kd.R_mono (Kd.R_far (p := ⟨gb227, 1, none⟩) (Kd.R_far (p := ⟨gb227, 0, none⟩) (Kd.R_types HO222.out BK227.out (by decide)) (fun _ hk => hk.2) (.slice Ao50 t220.length co50)) (fun _ hk => hk.2) (.slice Ao52 t223.length co52)) (fun _ hk => hk.1)⟩
     have n1_ : Aside0 (Kd.R (Kd.int .i64) 3 ((w49.setCell ⟨gb227, 0, none⟩ (.slice Ao50 t220.length co50)).setCell ⟨gb227, 1, none⟩ (.slice Ao52 t223.length co52)) w.heap.size (fun k_ => nS k_ Ao50 t220.length co50) (.slice Ao52 t223.length co52) t223) := ⟨by (with_reducible repeat (first | apply Kd.R_alloc | apply Kd.R_drewN | apply Kd.R_drew)); exact Kd.R_mono (Kd.R_far (p := ⟨gb227, 1, none⟩) (Kd.R_far (p := ⟨gb227, 0, none⟩) (Kd.R_types HO225.out BK227.out (by decide)) (fun _ hk => hk.2) (.slice Ao50 t220.length co50)) (fun _ hk => hk.2) (.slice Ao52 t223.length co52)) (fun _ hk => hk.1)⟩
     have n2_ : Aside0 (((w49.setCell ⟨gb227, 0, none⟩ (.slice Ao50 t220.length co50)).setCell ⟨gb227, 1, none⟩ (.slice Ao52 t223.length co52)).heap[gb217]? = some (.cells #[.slice A0_0 l0_0.length c0_0, .slice A0_1 l0_1.length c0_1] 26 (0, 0))) := ⟨xff NB217_227.out NB217_227.out BK217.out⟩
     have n3_ : Aside0 (((w49.setCell ⟨gb227, 0, none⟩ (.slice Ao50 t220.length co50)).setCell ⟨gb227, 1, none⟩ (.slice Ao52 t223.length co52)).heap[gb218]? = some (.cells #[.int .i64 a1_0, .int .i64 a1_1] 41 (0, 0))) := ⟨xff NB218_227.out NB218_227.out BK218.out⟩
     have n4_ : Aside0 (((w49.setCell ⟨gb227, 0, none⟩ (.slice Ao50 t220.length co50)).setCell ⟨gb227, 1, none⟩ (.slice Ao52 t223.length co52)).heap[gb219]? = some (.cells #[.slice none 0 0, .slice none 0 0] 26 (0, 0))) := ⟨xff NB219_227.out NB219_227.out BK219.out⟩
     have n5_ : Aside0 (((w49.setCell ⟨gb227, 0, none⟩ (.slice Ao50 t220.length co50)).setCell ⟨gb227, 1, none⟩ (.slice Ao52 t223.length co52)).heap[gb227]? = some (.cells #[.slice Ao50 t220.length co50, .slice Ao52 t223.length co52] 26 (0, 0))) := ⟨by (with_reducible repeat (first | refine blk_drewN ?_ _ | refine blk_drew ?_ | refine blk_alloc ?_ _)); refine blk_put (cs := #[.slice Ao50 t220.length co50, .slice none 0 0]) ?_ 1 _ rfl; (with_reducible repeat (first | refine blk_drewN ?_ _ | refine blk_drew ?_ | refine blk_alloc ?_ _)); refine blk_put (cs := #[.slice none 0 0, .slice none 0 0]) ?_ 0 _ rfl; (with_reducible repeat (first | refine blk_drewN ?_ _ | refine blk_drew ?_ | refine blk_alloc ?_ _)); exact BK227.out⟩
     have n6_ : Aside0 (Below w.heap.size w ((w49.setCell ⟨gb227, 0, none⟩ (.slice Ao50 t220.length co50)).setCell ⟨gb227, 1, none⟩ (.slice Ao52 t223.length co52))) := ⟨xs HB.out⟩
     (try clear HO222)
     (try clear HO225)
     (try clear BK217)
     (try clear BK218)
     (try clear BK219)
     (try clear BK227)
     (try clear HB)
     generalize ((w49.setCell ⟨gb227, 0, none⟩ (.slice Ao50 t220.length co50)).setCell ⟨gb227, 1, none⟩ (.slice Ao52 t223.length co52)) = w54 at n0_ n1_ n2_ n3_ n4_ n5_ n6_ ⊢
     have HO222 := n0_
     have HO225 := n1_
     have BK217 := n2_
     have BK218 := n3_
     have BK219 := n4_
     have BK227 := n5_
     have HB := n6_
     clear n0_ n1_ n2_ n3_ n4_ n5_ n6_
     have hnb55 := NB218_217.out
     have hnc55 := NB217_218.out
     have hnb56 := NB218_219.out
     have hnc56 := NB219_218.out
     have hnb57 := NB218_227.out
     have hnc57 := NB227_218.out
     have hcz58_0 : w54.cell? ⟨gb218, 0, none⟩ = some (.int .i64 a1_0) := (blk_cell BK218.out 0).trans rfl
     have hcz58_1 : w54.cell? ⟨gb218, 1, none⟩ = some (.int .i64 a1_1) := (blk_cell BK218.out 1).trans rfl
     have hfz58_0 := blk_frozen BK218.out 0
     have hfz58_1 := blk_frozen BK218.out 1
     have hnb59 := NB227_217.out
     have hnc59 := NB217_227.out
     have hnb60 := NB227_219.out
     have hnc60 := NB219_227.out
     have hcz61_0 : w54.cell? ⟨gb227, 0, none⟩ = some (.slice Ao50 t220.length co50) := (blk_cell BK227.out 0).trans rfl
     have hcz61_1 : w54.cell? ⟨gb227, 1, none⟩ = some (.slice Ao52 t223.length co52) := (blk_cell BK227.out 1).trans rfl
     have hfz61_0 := blk_frozen BK227.out 0
     have hfz61_1 := blk_frozen BK227.out 1
     have p228 : 0 ≤ (a1_0 : Int) := of_decide_eq_true (by first | (with_reducible assumption) | assumption)
     have q228 : a1_0 < (t223.length : Int) := of_decide_eq_true (by first | (with_reducible assumption) | assumption)
     obtain ⟨ad228, e228, hx228_0⟩ := Kd.at_int (Kd.R_reads' HO225.out).2.2 a1_0 p228 q228
     cases e228
     replace p228 := eq_true p228
     replace q228 := eq_true q228
     have p8 : 0 ≤ (a1_0 : Int) := of_decide_eq_true (by first | (with_reducible assumption) | assumption)
     have q8 : (a1_0 : Int) < ((t223.length : Int) : Int) := of_decide_eq_true (by first | (with_reducible assumption) | assumption)
     obtain ⟨go8, co8, eo8, gb8, gl8, cl8, HG8⟩ := Kd.R_form HO225.out (by omega)
     (first | cases eo8 | (injection eo8 with ea_ en_ ec_; (first | subst ea_ | (injection ea_ with ea_; subst ea_)); subst ec_; clear en_))
     have GB8 := Aside0.mk gb8
     have GG8 := Aside0.mk HG8
     clear gb8 gl8 HG8
     (first | simp only [add_plain] at hx228_0 | skip)
     obtain ⟨hx8_0, hf8_0⟩ := Kd.R_celln 0 HO225.out (a1_0 : Int) p8 q8
     replace p8 := eq_true p8
     replace q8 := eq_true q8
     obtain ⟨hy62_, hz62_⟩ := Kd.R_celln 0 HO225.out (a1_0 : Int) (of_decide_eq_true (by first | (with_reducible assumption) | assumption)) (of_decide_eq_true (by first | (with_reducible assumption) | assumption))
     have HP62 := Kd.R_putg HO225.out (a1_0 : Int) (wrap64 ((rd t223 a1_0) - t226))
     try go_wp2_with (first | ((with_reducible refine gate_store (t := 3) (p := 23) rfl ?_); refine store_event (t := 3) (p := 23) (v := ?vo_w63) (w1 := (w54.setCell ⟨go8, (a1_0 : Int).toNat, none⟩ (.int .i64 (wrap64 ((rd t223 a1_0) - t226))))) ?hg ?ho ?hn ?hr ?_; (case ho => rfl); (case hg => rfl); (case hn => rfl); (case hr => first | (go_simp; done) | (go_simp; rfl)); intro w63 hw; have hg : w54.grownBy w63 (some go8) := (by rw [hw]; exact HP62.2); have hp_ : Kd.R (Kd.int .i64) 3 w63 w.heap.size (fun k_ => nS k_ Ao50 t220.length co50) (.slice (some ⟨go8, 0, none⟩) t223.length co52) y229 := (by rw [hw, Ny229.out]; exact HP62.1); clear HP62; replace BK217 := Aside0.mk (blk_grown (g := gb217) (o := .cells #[.slice A0_0 l0_0.length c0_0, .slice A0_1 l0_1.length c0_1] 26 (0, 0)) (xb BK217.out) hg (Kd.R_ne HO225.out BK217.out (by decide))); replace BK218 := Aside0.mk (blk_grown (g := gb218) (o := .cells #[.int .i64 a1_0, .int .i64 a1_1] 41 (0, 0)) (xb BK218.out) hg (Kd.R_ne HO225.out BK218.out (by decide))); replace BK219 := Aside0.mk (blk_grown (g := gb219) (o := .cells #[.slice none 0 0, .slice none 0 0] 26 (0, 0)) (xb BK219.out) hg (Kd.R_ne HO225.out BK219.out (by decide))); replace HO222 := Aside0.mk (Kd.R_after (v := (.slice (some ⟨go8, 0, none⟩) t223.length co52)) (v1 := (.slice (some ⟨go8, 0, none⟩) t223.length co52)) (ok := (fun _ => True)) (xm HO222 (fun _ hk => ⟨trivial, hk⟩)) hg (.inl rfl)); replace BK227 := Aside0.mk (blk_grown (g := gb227) (o := .cells #[.slice Ao50 t220.length co50, .slice (some ⟨go8, 0, none⟩) t223.length co52] 26 (0, 0)) (xb BK227.out) hg (Kd.R_ne HO225.out BK227.out (by decide))); replace HO225 := Aside0.mk (hp_); replace HB := Aside0.mk ((by rw [hw]; exact below_set (HB.out) GB8.out : Below w.heap.size w w63)); clear hg hw hp_; have hcz64_0 : w63.cell? ⟨gb218, 0, none⟩ = some (.int .i64 a1_0) := (blk_cell BK218.out 0).trans rfl; have hcz64_1 : w63.cell? ⟨gb218, 1, none⟩ = some (.int .i64 a1_1) := (blk_cell BK218.out 1).trans rfl; have hfz64_0 := blk_frozen BK218.out 0; have hfz64_1 := blk_frozen BK218.out 1; have hcz65_0 : w63.cell? ⟨gb227, 0, none⟩ = some (.slice Ao50 t220.length co50) := (blk_cell BK227.out 0).trans rfl; have hcz65_1 : w63.cell? ⟨gb227, 1, none⟩ = some (.slice (some ⟨go8, 0, none⟩) t223.length co52) := (blk_cell BK227.out 1).trans rfl; have hfz65_0 := blk_frozen BK227.out 0; have hfz65_1 := blk_frozen BK227.out 1; have hnb66 := NB219_217.out; have hnc66 := NB217_219.out; have hcz67_0 : w63.cell? ⟨gb219, 0, none⟩ = some (.slice none 0 0) := (blk_cell BK219.out 0).trans rfl; have hcz67_1 : w63.cell? ⟨gb219, 1, none⟩ = some (.slice none 0 0) := (blk_cell BK219.out 1).trans rfl; have hfz67_0 := blk_frozen BK219.out 0; have hfz67_1 := blk_frozen BK219.out 1))
     refine bodyPost_ret (results_cell_row rfl _ _ gb219 26 #[.slice Ao50 t220.length co50, .slice (some ⟨go8, 0, none⟩) t223.length co52] (0, 0) _ rfl (by (with_reducible repeat (first | refine blk_drewN ?_ _ | refine blk_drew ?_ | refine blk_alloc ?_ _)); refine blk_put (cs := #[.slice Ao50 t220.length co50, .slice none 0 0]) ?_ 1 _ rfl; (with_reducible repeat (first | refine blk_drewN ?_ _ | refine blk_drew ?_ | refine blk_alloc ?_ _)); refine blk_put (cs := #[.slice none 0 0, .slice none 0 0]) ?_ 0 _ rfl; (with_reducible repeat (first | refine blk_drewN ?_ _ | refine blk_drew ?_ | refine blk_alloc ?_ _)); exact BK219.out) Try.underlying26 rfl (by kernel_rfl)) rfl ?_
     exact ⟨_, _, by first | rfl | (simp [errW_none, errW_some] <;> rfl) | (simp [*, errW_none, errW_some] <;> rfl), by (with_reducible repeat (first | apply Kd.R_alloc | apply Kd.R_drewN | apply Kd.R_drew)); exact Kd.R_mono (Kd.R_far (p := ⟨gb219, 1, none⟩) (Kd.R_far (p := ⟨gb219, 0, none⟩) (Kd.R_types HO222.out BK219.out (by decide)) (fun _ hk => hk.2) (.slice Ao50 t220.length co50)) (fun _ hk => hk.2) (.slice (some ⟨go8, 0, none⟩) t223.length co52)) (fun _ hk => hk.1.2), by (with_reducible repeat (first | apply Kd.R_alloc | apply Kd.R_drewN | apply Kd.R_drew)); exact Kd.R_mono (Kd.R_far (p := ⟨gb219, 1, none⟩) (Kd.R_far (p := ⟨gb219, 0, none⟩) (Kd.R_types HO225.out BK219.out (by decide)) (fun _ hk => hk.2) (.slice Ao50 t220.length co50)) (fun _ hk => hk.2) (.slice (some ⟨go8, 0, none⟩) t223.length co52)) (fun _ hk => hk.1), by repeat (first | (with_reducible first | exact HB.out | apply below_alloc | apply pw_below_drewN | apply below_drew1 | refine below_set ?_ GE217.out | refine below_set ?_ GE218.out | refine below_set ?_ GE219.out | refine below_set ?_ GE227.out) | exact HB.out)⟩
   ·rw [if_neg c7] at H
    exact absurd H (by simp)
  ·rw [if_neg c6] at H
   exact absurd H (by simp)
 ·rw [if_neg c5] at H
  have c5b0 : decide (0 ≤ a1_0) = false := decide_eq_false c5
  clear c5
  by_cases c68 : a1_1 ≥ 0
  ·rw [if_pos c68] at H
   have c68b0 : decide (0 ≤ a1_1) = true := decide_eq_true c68
   clear c68
   by_cases c69 : 0 ≤ a1_1
   ·rw [if_pos c69] at H
    have c69b0 : decide (0 ≤ a1_1) = true := decide_eq_true c69
    clear c69
    by_cases c70 : a1_1 < (t223.length : Int)
    ·rw [if_pos c70] at H
     have c70b0 : decide (a1_1 < (t223.length : Int)) = true := decide_eq_true c70
     clear c70
     obtain ⟨y233, hy233⟩ : ∃ y_ : List Int, y_ = (t223.set (a1_1 : Int).toNat (wrap64 ((rd t223 a1_1) + t226))) := ⟨_, rfl⟩
     replace H : (some (t220, y233)) = some (r1, r2) := by first | (rw [hy233]; with_reducible exact H) | (have H2_ := (Option.bind_some _ _).symm.trans H; rw [hy233]; with_reducible exact H2_) | (have H2_ := (Option.bind_some _ _).symm.trans H; with_reducible exact H2_) | with_reducible exact H | (rw [hy233]; exact H) | exact H
     have Ny233 := Aside0.mk hy233
     clear hy233
     simp only [Option.some.injEq, Prod.mk.injEq] at H
     obtain ⟨rfl, rfl⟩ := H
     go_enter Try.func78, Try.ntmps78
     try go_wp2_with (first | ((with_reducible refine gate_dst (N := 2) rfl ?_); refine box_event ?hg (N := 2) ?hd (cs := #[.slice A0_0 l0_0.length c0_0, .slice A0_1 l0_1.length c0_1]) (t := 26) ?hr ?_; (case hd => rfl); (case hg => rfl); (case hr => first | (go_simp; done) | (go_simp; rfl)); intro gb217 hg w72 hbox hb; have BK217 := Aside0.mk (hbox); have GW217 := xg HB hg; have GE217 := xg HB hg; replace HB := xp HB hb; clear hb hbox hg) | ((with_reducible refine gate_dst (N := 3) rfl ?_); refine box_event ?hg (N := 3) ?hd (cs := #[.int .i64 a1_0, .int .i64 a1_1]) (t := 41) ?hr ?_; (case hd => rfl); (case hg => rfl); (case hr => first | (go_simp; done) | (go_simp; rfl)); intro gb218 hg w73 hbox hb; have BK218 := Aside0.mk (hbox); have GW218 := xg HB hg; have GE218 := xg HB hg; replace HB := xp HB hb; have NB217_218 := xl BK217 hg; have NB218_217 := xh BK217 hg; replace BK217 := xk BK217 hb; clear hb hbox hg) | ((with_reducible refine gate_dst (N := 4) rfl ?_); refine box_event ?hg (N := 4) ?hd (cs := #[.slice none 0 0, .slice none 0 0]) (t := 26) ?hr ?_; (case hd => rfl); (case hg => rfl); (case hr => first | (go_simp; done) | (go_simp; rfl)); intro gb219 hg w74 hbox hb; have BK219 := Aside0.mk (hbox); have GW219 := xg HB hg; have GE219 := xg HB hg; replace HB := xp HB hb; have NB217_219 := xl BK217 hg; have NB219_217 := xh BK217 hg; replace BK217 := xk BK217 hb; have NB218_219 := xl BK218 hg; have NB219_218 := xh BK218 hg; replace BK218 := xk BK218 hb; clear hb hbox hg))
     replace BK217 := xv BK217
     replace BK218 := xv BK218
     replace BK219 := xv BK219
     replace HB := Aside0.mk (below_drew1 HB.out)
     refine start_ (n := 8) (S := fun w' => w'.cell? ⟨gb217, 0, none⟩ = some (.slice A0_0 l0_0.length c0_0) ∧ w'.cell? ⟨gb217, 1, none⟩ = some (.slice A0_1 l0_1.length c0_1) ∧ w'.cell? ⟨gb218, 0, none⟩ = some (.int .i64 a1_0) ∧ w'.cell? ⟨gb218, 1, none⟩ = some (.int .i64 a1_1)) (ds := []) #[false, false, false, false, false, false, false, false] (by kernel_rfl) rfl rfl ⟨(blk_cell BK217.out 0).trans rfl, (blk_cell BK217.out 1).trans rfl, (blk_cell BK218.out 0).trans rfl, (blk_cell BK218.out 1).trans rfl⟩ (fun hHeld => ?_); refine with_tabW impl_Vessels_behind.tab1 impl_Vessels_behind.bits1 (fun HT_ HW_ => ?_)
     generalize w74.drew = w75 at BK217 BK218 BK219 HB hHeld ⊢
     refine take_ (i := 0) (N := some 7) (v := ?_) (a' := ?_) #[true, false, false, false, false, false, false, false] rfl rfl (take_ofW HT_.out HW_.out (by kernel_rfl)) (fun _ _ _ h => h) (Or.inl ⟨by rfl, ?_⟩) hHeld ?_ ?_
     rotate_left
     ·rintro w' ⟨s0, s1, s2, s3⟩
      go_simp
      with_reducible rfl
     rotate_left
     ·simp only [Act.put, List.setIfInBounds_toArray, List.set_cons_zero, List.set_cons_succ, i64_w, i32_w]
      rfl
     refine take_ (i := 2) (N := some 9) (v := ?_) (a' := ?_) #[true, false, true, false, false, false, false, false] rfl rfl (take_ofW HT_.out HW_.out (by kernel_rfl)) (fun _ _ _ h => h) (Or.inl ⟨by rfl, ?_⟩) hHeld ?_ ?_
     rotate_left
     ·rintro w' ⟨s0, s1, s2, s3⟩
      go_simp
      with_reducible rfl
     rotate_left
     ·simp only [Act.put, List.setIfInBounds_toArray, List.set_cons_zero, List.set_cons_succ, i64_w, i32_w]
      rfl
     refine take_ (i := 3) (N := some 10) (v := ?_) (a' := ?_) #[true, false, true, true, false, false, false, false] rfl rfl (take_ofW HT_.out HW_.out (by kernel_rfl)) (fun _ _ _ h => h) (Or.inl ⟨by rfl, ?_⟩) hHeld ?_ ?_
     rotate_left
     ·rintro w' ⟨s0, s1, s2, s3⟩
      go_simp
      with_reducible rfl
     rotate_left
     ·simp only [Act.put, List.setIfInBounds_toArray, List.set_cons_zero, List.set_cons_succ, i64_w, i32_w]
      rfl
     refine join_ (σ := Value × Value × Nat) 2 #[true, true, true, true, true, true, false, false] (fun s_ => [(8, .agg #[s_.1, s_.2.1]), (11, .int .i64 t226), (5, .pointer (some ⟨s_.2.2, 0, none⟩))]) (fun s_ w' => (w'.cell? ⟨gb217, 0, none⟩ = some (.slice A0_0 l0_0.length c0_0) ∧ w'.cell? ⟨gb217, 1, none⟩ = some (.slice A0_1 l0_1.length c0_1) ∧ w'.cell? ⟨gb218, 0, none⟩ = some (.int .i64 a1_0) ∧ w'.cell? ⟨gb218, 1, none⟩ = some (.int .i64 a1_1)) ∧ (Kd.R (Kd.int .i64) 3 w' w.heap.size (fun k_ => some k_ ≠ (s_.2.1 : Value).ownBlock) s_.1 t220) ∧ (Kd.R (Kd.int .i64) 3 w' w.heap.size (fun k_ => some k_ ≠ (s_.1 : Value).ownBlock) s_.2.1 t223) ∧ (w'.heap[gb217]? = some (.cells #[.slice A0_0 l0_0.length c0_0, .slice A0_1 l0_1.length c0_1] 26 (0, 0))) ∧ (w'.heap[gb218]? = some (.cells #[.int .i64 a1_0, .int .i64 a1_1] 41 (0, 0))) ∧ (w'.heap[gb219]? = some (.cells #[.slice none 0 0, .slice none 0 0] 26 (0, 0))) ∧ (w'.heap[s_.2.2]? = some (.cells #[.slice none 0 0, .slice none 0 0] 26 (0, 0))) ∧ (w.heap.size ≤ s_.2.2) ∧ (w.heap.size ≤ s_.2.2) ∧ (gb217 ≠ s_.2.2) ∧ (s_.2.2 ≠ gb217) ∧ (gb218 ≠ s_.2.2) ∧ (s_.2.2 ≠ gb218) ∧ (gb219 ≠ s_.2.2) ∧ (s_.2.2 ≠ gb219) ∧ (Below w.heap.size w w')) ?_ ?_
     rotate_left
     ·intro hCont
      refine two_ (i := 1) (j := 5) (Ni := some 8) (Nj := some 5) #[true, true, true, true, false, false, false, false] #[true, false, true, true, false, true, false, false] rfl rfl rfl rfl (two_of HT_.out (by kernel_rfl)) (by decide) (by decide) (fun K hK => ?_) (fun K hK => ?_)
      ·skip
       refine goes_ Try.func65 (by kernel_rfl) rfl #[.agg #[.slice A0_0 l0_0.length c0_0, .slice A0_1 l0_1.length c0_1]] (by rfl) rfl rfl (by (try simp only [List.map_toArray, List.map_cons, List.map_nil]); first | done | rfl | (simp only [List.length_drop, List.length_take]; rfl)) ?_
       with_reducible refine (impl_Vessels_own.calls _ _ l0_0 _ _ l0_1 t220 t223 _ ?side1 ?side2 ?side3 ?side4 A3.out).mono ?_
       (case side1 => exact xd ((Kd.C_below HR0_0.out HB.out)))
       (case side2 => exact HC0_0.out)
       (case side3 => exact xd ((Kd.C_below HR0_1.out HB.out)))
       (case side4 => exact HC0_1.out)
       rintro e w76 ⟨v221, v224, rfl, ho0, ho1, hb⟩
       refine ⟨_, rfl, ?_⟩
       have HO222 := Aside0.mk (Kd.R_lower ho0 (below_size (xs HB.out)))
       have HO225 := Aside0.mk (Kd.R_lower ho1 (below_size (xs HB.out)))
       replace BK217 := xk BK217 hb
       replace BK218 := xk BK218 hb
       replace BK219 := xk BK219 hb
       replace HB := xp HB hb
       (try clear hb)
       (try clear hb2)
       (try clear hk)
       (try clear hi)
       (try clear ho0)
       (try clear ho1)
       refine hK.out _ _ ⟨(blk_cell BK217.out 0).trans rfl, (blk_cell BK217.out 1).trans rfl, (blk_cell BK218.out 0).trans rfl, (blk_cell BK218.out 1).trans rfl⟩ (fun hHeld => ?_)
       clear hK K
       refine norm_ (a' := ?_) ?_ ?_
       rotate_left
       ·show Act.put _ (some 8) _ = _
        simp only [Act.put, List.setIfInBounds_toArray, List.set_cons_zero, List.set_cons_succ, i64_w, i32_w]
        rfl
       refine two_ (i := 4) (j := 5) (Ni := some 11) (Nj := some 5) #[true, true, true, true, true, false, false, false] #[true, true, true, true, false, true, false, false] rfl rfl rfl rfl (two_of HT_.out (by kernel_rfl)) (by decide) (by decide) (fun K hK => ?_) (fun K hK => ?_)
       ·skip
        refine goes_ Try.func83 (by kernel_rfl) rfl #[.agg #[.slice A0_0 l0_0.length c0_0, .slice A0_1 l0_1.length c0_1], .agg #[.int .i64 a1_0, .int .i64 a1_1]] (by rfl) rfl rfl (by (try simp only [List.map_toArray, List.map_cons, List.map_nil]); first | done | rfl | (simp only [List.length_drop, List.length_take]; rfl)) ?_
        with_reducible refine (impl_Vessels_amount.calls _ _ l0_0 _ _ l0_1 a1_0 a1_1 t226 _ ?side1 ?side2 ?side3 ?side4 A4.out).mono ?_
        (case side1 => exact xd ((Kd.C_below HR0_0.out HB.out)))
        (case side2 => exact HC0_0.out)
        (case side3 => exact xd ((Kd.C_below HR0_1.out HB.out)))
        (case side4 => exact HC0_1.out)
        rintro e w77 ⟨rfl, hb⟩
        refine ⟨_, rfl, ?_⟩
        replace HO222 := xq HO222 hb
        replace HO225 := xq HO225 hb
        replace BK217 := xk BK217 hb
        replace BK218 := xk BK218 hb
        replace BK219 := xk BK219 hb
        replace HB := xp HB hb
        (try clear hb)
        (try clear hb2)
        (try clear hk)
        (try clear hi)
        refine hK.out _ _ ⟨(blk_cell BK217.out 0).trans rfl, (blk_cell BK217.out 1).trans rfl, (blk_cell BK218.out 0).trans rfl, (blk_cell BK218.out 1).trans rfl⟩ (fun hHeld => ?_)
        clear hK K
        refine norm_ (a' := ?_) ?_ ?_
        rotate_left
        ·show Act.put _ (some 11) _ = _
         simp only [Act.put, List.setIfInBounds_toArray, List.set_cons_zero, List.set_cons_succ, i64_w, i32_w]
         rfl
        refine one_ (i := 5) (N := some 5) #[true, true, true, true, true, true, false, false] rfl rfl (one_of HT_.out (by kernel_rfl)) (by decide) (fun K hK => ?_)
        refine box_step ?hg (N := 5) ?hd (cs := #[.slice none 0 0, .slice none 0 0]) (t := 26) ?hr ?_; (case hd => rfl); (case hg => rfl); (case hr => first | (go_simp; done) | (go_simp; rfl))
        intro gb227 hg w78 hbox hb
        replace HO222 := xq HO222 hb
        replace HO225 := xq HO225 hb
        have BK227 := Aside0.mk (hbox)
        have GW227 := xg HB hg
        have GE227 := xg HB hg
        replace HB := xp HB hb
        have NB217_227 := xl BK217 hg
        have NB227_217 := xh BK217 hg
        replace BK217 := xk BK217 hb
        have NB218_227 := xl BK218 hg
        have NB227_218 := xh BK218 hg
        replace BK218 := xk BK218 hb
        have NB219_227 := xl BK219 hg
        have NB227_219 := xh BK219 hg
        replace BK219 := xk BK219 hb
        clear hb hbox hg
        refine hK.out _ _ ⟨(blk_cell BK217.out 0).trans rfl, (blk_cell BK217.out 1).trans rfl, (blk_cell BK218.out 0).trans rfl, (blk_cell BK218.out 1).trans rfl⟩ (fun hHeld => ?_)
        clear hK K
        refine norm_ (a' := ?_) ?_ ?_
        rotate_left
        ·show Act.put _ (some 5) _ = _
         simp only [Act.put, List.setIfInBounds_toArray, List.set_cons_zero, List.set_cons_succ, i64_w, i32_w]
         rfl
        exact norm_ (by simp only [putAll, Act.put, List.setIfInBounds_toArray, List.set_cons_zero, List.set_cons_succ]) (hCont (v221, v224, gb227) _ ⟨hHeld, (xr HO222.out), (xr HO225.out), (xb BK217.out), (xb BK218.out), (xb BK219.out), (xb BK227.out), GW227.out, GE227.out, NB217_227.out, NB227_217.out, NB218_227.out, NB227_218.out, NB219_227.out, NB227_219.out, (xs HB.out)⟩)
       ·skip
        refine box_step ?hg (N := 5) ?hd (cs := #[.slice none 0 0, .slice none 0 0]) (t := 26) ?hr ?_; (case hd => rfl); (case hg => rfl); (case hr => first | (go_simp; done) | (go_simp; rfl))
        intro gb227 hg w77 hbox hb
        replace HO222 := xq HO222 hb
        replace HO225 := xq HO225 hb
        have BK227 := Aside0.mk (hbox)
        have GW227 := xg HB hg
        have GE227 := xg HB hg
        replace HB := xp HB hb
        have NB217_227 := xl BK217 hg
        have NB227_217 := xh BK217 hg
        replace BK217 := xk BK217 hb
        have NB218_227 := xl BK218 hg
        have NB227_218 := xh BK218 hg
        replace BK218 := xk BK218 hb
        have NB219_227 := xl BK219 hg
        have NB227_219 := xh BK219 hg
        replace BK219 := xk BK219 hb
        clear hb hbox hg
        refine hK.out _ _ ⟨(blk_cell BK217.out 0).trans rfl, (blk_cell BK217.out 1).trans rfl, (blk_cell BK218.out 0).trans rfl, (blk_cell BK218.out 1).trans rfl⟩ (fun hHeld => ?_)
        clear hK K
        refine norm_ (a' := ?_) ?_ ?_
        rotate_left
        ·show Act.put _ (some 5) _ = _
         simp only [Act.put, List.setIfInBounds_toArray, List.set_cons_zero, List.set_cons_succ, i64_w, i32_w]
         rfl
        refine one_ (i := 4) (N := some 11) #[true, true, true, true, true, true, false, false] rfl rfl (one_of HT_.out (by kernel_rfl)) (by decide) (fun K hK => ?_)
        refine goes_ Try.func83 (by kernel_rfl) rfl #[.agg #[.slice A0_0 l0_0.length c0_0, .slice A0_1 l0_1.length c0_1], .agg #[.int .i64 a1_0, .int .i64 a1_1]] (by rfl) rfl rfl (by (try simp only [List.map_toArray, List.map_cons, List.map_nil]); first | done | rfl | (simp only [List.length_drop, List.length_take]; rfl)) ?_
        with_reducible refine (impl_Vessels_amount.calls _ _ l0_0 _ _ l0_1 a1_0 a1_1 t226 _ ?side1 ?side2 ?side3 ?side4 A4.out).mono ?_
        (case side1 => exact xd ((Kd.C_below HR0_0.out HB.out)))
        (case side2 => exact HC0_0.out)
        (case side3 => exact xd ((Kd.C_below HR0_1.out HB.out)))
        (case side4 => exact HC0_1.out)
        rintro e w78 ⟨rfl, hb⟩
        refine ⟨_, rfl, ?_⟩
        replace HO222 := xq HO222 hb
        replace HO225 := xq HO225 hb
        replace BK217 := xk BK217 hb
        replace BK218 := xk BK218 hb
        replace BK219 := xk BK219 hb
        replace BK227 := xk BK227 hb
        replace HB := xp HB hb
        (try clear hb)
        (try clear hb2)
        (try clear hk)
        (try clear hi)
        refine hK.out _ _ ⟨(blk_cell BK217.out 0).trans rfl, (blk_cell BK217.out 1).trans rfl, (blk_cell BK218.out 0).trans rfl, (blk_cell BK218.out 1).trans rfl⟩ (fun hHeld => ?_)
        clear hK K
        refine norm_ (a' := ?_) ?_ ?_
        rotate_left
        ·show Act.put _ (some 11) _ = _
         simp only [Act.put, List.setIfInBounds_toArray, List.set_cons_zero, List.set_cons_succ, i64_w, i32_w]
         rfl
        exact norm_ (by simp only [putAll, Act.put, List.setIfInBounds_toArray, List.set_cons_zero, List.set_cons_succ]) (hCont (v221, v224, gb227) _ ⟨hHeld, (xr HO222.out), (xr HO225.out), (xb BK217.out), (xb BK218.out), (xb BK219.out), (xb BK227.out), GW227.out, GE227.out, NB217_227.out, NB227_217.out, NB218_227.out, NB227_218.out, NB219_227.out, NB227_219.out, (xs HB.out)⟩)
      ·skip
       refine box_step ?hg (N := 5) ?hd (cs := #[.slice none 0 0, .slice none 0 0]) (t := 26) ?hr ?_; (case hd => rfl); (case hg => rfl); (case hr => first | (go_simp; done) | (go_simp; rfl))
       intro gb227 hg w76 hbox hb
       have BK227 := Aside0.mk (hbox)
       have GW227 := xg HB hg
       have GE227 := xg HB hg
       replace HB := xp HB hb
       have NB217_227 := xl BK217 hg
       have NB227_217 := xh BK217 hg
       replace BK217 := xk BK217 hb
       have NB218_227 := xl BK218 hg
       have NB227_218 := xh BK218 hg
       replace BK218 := xk BK218 hb
       have NB219_227 := xl BK219 hg
       have NB227_219 := xh BK219 hg
       replace BK219 := xk BK219 hb
       clear hb hbox hg
       refine hK.out _ _ ⟨(blk_cell BK217.out 0).trans rfl, (blk_cell BK217.out 1).trans rfl, (blk_cell BK218.out 0).trans rfl, (blk_cell BK218.out 1).trans rfl⟩ (fun hHeld => ?_)
       clear hK K
       refine norm_ (a' := ?_) ?_ ?_
       rotate_left
       ·show Act.put _ (some 5) _ = _
        simp only [Act.put, List.setIfInBounds_toArray, List.set_cons_zero, List.set_cons_succ, i64_w, i32_w]
        rfl
       refine one_ (i := 1) (N := some 8) #[true, true, true, true, false, true, false, false] rfl rfl (one_of HT_.out (by kernel_rfl)) (by decide) (fun K hK => ?_)
       refine goes_ Try.func65 (by kernel_rfl) rfl #[.agg #[.slice A0_0 l0_0.length c0_0, .slice A0_1 l0_1.length c0_1]] (by rfl) rfl rfl (by (try simp only [List.map_toArray, List.map_cons, List.map_nil]); first | done | rfl | (simp only [List.length_drop, List.length_take]; rfl)) ?_
       with_reducible refine (impl_Vessels_own.calls _ _ l0_0 _ _ l0_1 t220 t223 _ ?side1 ?side2 ?side3 ?side4 A3.out).mono ?_
       (case side1 => exact xd ((Kd.C_below HR0_0.out HB.out)))
       (case side2 => exact HC0_0.out)
       (case side3 => exact xd ((Kd.C_below HR0_1.out HB.out)))
       (case side4 => exact HC0_1.out)
       rintro e w77 ⟨v221, v224, rfl, ho0, ho1, hb⟩
       refine ⟨_, rfl, ?_⟩
       have HO222 := Aside0.mk (Kd.R_lower ho0 (below_size (xs HB.out)))
       have HO225 := Aside0.mk (Kd.R_lower ho1 (below_size (xs HB.out)))
       replace BK217 := xk BK217 hb
       replace BK218 := xk BK218 hb
       replace BK219 := xk BK219 hb
       replace BK227 := xk BK227 hb
       replace HB := xp HB hb
       (try clear hb)
       (try clear hb2)
       (try clear hk)
       (try clear hi)
       (try clear ho0)
       (try clear ho1)
       refine hK.out _ _ ⟨(blk_cell BK217.out 0).trans rfl, (blk_cell BK217.out 1).trans rfl, (blk_cell BK218.out 0).trans rfl, (blk_cell BK218.out 1).trans rfl⟩ (fun hHeld => ?_)
       clear hK K
       refine norm_ (a' := ?_) ?_ ?_
       rotate_left
       ·show Act.put _ (some 8) _ = _
        simp only [Act.put, List.setIfInBounds_toArray, List.set_cons_zero, List.set_cons_succ, i64_w, i32_w]
        rfl
       refine one_ (i := 4) (N := some 11) #[true, true, true, true, true, true, false, false] rfl rfl (one_of HT_.out (by kernel_rfl)) (by decide) (fun K hK => ?_)
       refine goes_ Try.func83 (by kernel_rfl) rfl #[.agg #[.slice A0_0 l0_0.length c0_0, .slice A0_1 l0_1.length c0_1], .agg #[.int .i64 a1_0, .int .i64 a1_1]] (by rfl) rfl rfl (by (try simp only [List.map_toArray, List.map_cons, List.map_nil]); first | done | rfl | (simp only [List.length_drop, List.length_take]; rfl)) ?_
       with_reducible refine (impl_Vessels_amount.calls _ _ l0_0 _ _ l0_1 a1_0 a1_1 t226 _ ?side1 ?side2 ?side3 ?side4 A4.out).mono ?_
       (case side1 => exact xd ((Kd.C_below HR0_0.out HB.out)))
       (case side2 => exact HC0_0.out)
       (case side3 => exact xd ((Kd.C_below HR0_1.out HB.out)))
       (case side4 => exact HC0_1.out)
       rintro e w78 ⟨rfl, hb⟩
       refine ⟨_, rfl, ?_⟩
       replace HO222 := xq HO222 hb
       replace HO225 := xq HO225 hb
       replace BK217 := xk BK217 hb
       replace BK218 := xk BK218 hb
       replace BK219 := xk BK219 hb
       replace BK227 := xk BK227 hb
       replace HB := xp HB hb
       (try clear hb)
       (try clear hb2)
       (try clear hk)
       (try clear hi)
       refine hK.out _ _ ⟨(blk_cell BK217.out 0).trans rfl, (blk_cell BK217.out 1).trans rfl, (blk_cell BK218.out 0).trans rfl, (blk_cell BK218.out 1).trans rfl⟩ (fun hHeld => ?_)
       clear hK K
       refine norm_ (a' := ?_) ?_ ?_
       rotate_left
       ·show Act.put _ (some 11) _ = _
        simp only [Act.put, List.setIfInBounds_toArray, List.set_cons_zero, List.set_cons_succ, i64_w, i32_w]
        rfl
       exact norm_ (by simp only [putAll, Act.put, List.setIfInBounds_toArray, List.set_cons_zero, List.set_cons_succ]) (hCont (v221, v224, gb227) _ ⟨hHeld, (xr HO222.out), (xr HO225.out), (xb BK217.out), (xb BK218.out), (xb BK219.out), (xb BK227.out), GW227.out, GE227.out, NB217_227.out, NB227_217.out, NB218_227.out, NB227_218.out, NB219_227.out, NB227_219.out, (xs HB.out)⟩)
     rintro ⟨v221, v224, gb227⟩ w79 ⟨hS_, h0_, h1_, h2_, h3_, h4_, h5_, h6_, h7_, h8_, h9_, h10_, h11_, h12_, h13_, h14_⟩
     have n0_ : Aside0 (Kd.R (Kd.int .i64) 3 w79 w.heap.size (fun k_ => nV k_ v224) v221 t220) := ⟨h0_⟩
     have n1_ : Aside0 (Kd.R (Kd.int .i64) 3 w79 w.heap.size (fun k_ => nV k_ v221) v224 t223) := ⟨h1_⟩
     have n2_ : Aside0 (w79.heap[gb217]? = some (.cells #[.slice A0_0 l0_0.length c0_0, .slice A0_1 l0_1.length c0_1] 26 (0, 0))) := ⟨h2_⟩
     have n3_ : Aside0 (w79.heap[gb218]? = some (.cells #[.int .i64 a1_0, .int .i64 a1_1] 41 (0, 0))) := ⟨h3_⟩
     have n4_ : Aside0 (w79.heap[gb219]? = some (.cells #[.slice none 0 0, .slice none 0 0] 26 (0, 0))) := ⟨h4_⟩
     have n5_ : Aside0 (w79.heap[gb227]? = some (.cells #[.slice none 0 0, .slice none 0 0] 26 (0, 0))) := ⟨h5_⟩
     have n6_ : Aside0 (w.heap.size ≤ gb227) := ⟨h6_⟩
     have n7_ : Aside0 (w.heap.size ≤ gb227) := ⟨h7_⟩
     have n8_ : Aside0 (gb217 ≠ gb227) := ⟨h8_⟩
     have n9_ : Aside0 (gb227 ≠ gb217) := ⟨h9_⟩
     have n10_ : Aside0 (gb218 ≠ gb227) := ⟨h10_⟩
     have n11_ : Aside0 (gb227 ≠ gb218) := ⟨h11_⟩
     have n12_ : Aside0 (gb219 ≠ gb227) := ⟨h12_⟩
     have n13_ : Aside0 (gb227 ≠ gb219) := ⟨h13_⟩
     have n14_ : Aside0 (Below w.heap.size w w79) := ⟨h14_⟩
     clear BK217
     clear BK218
     clear BK219
     clear HB
     clear h0_ h1_ h2_ h3_ h4_ h5_ h6_ h7_ h8_ h9_ h10_ h11_ h12_ h13_ h14_
     have HO222 := n0_
     have HO225 := n1_
     have BK217 := n2_
     have BK218 := n3_
     have BK219 := n4_
     have BK227 := n5_
     have GW227 := n6_
     have GE227 := n7_
     have NB217_227 := n8_
     have NB227_217 := n9_
     have NB218_227 := n10_
     have NB227_218 := n11_
     have NB219_227 := n12_
     have NB227_219 := n13_
     have HB := n14_
     clear n0_ n1_ n2_ n3_ n4_ n5_ n6_ n7_ n8_ n9_ n10_ n11_ n12_ n13_ n14_
     have hHeld : w79.cell? ⟨gb217, 0, none⟩ = some (.slice A0_0 l0_0.length c0_0) ∧ w79.cell? ⟨gb217, 1, none⟩ = some (.slice A0_1 l0_1.length c0_1) ∧ w79.cell? ⟨gb218, 0, none⟩ = some (.int .i64 a1_0) ∧ w79.cell? ⟨gb218, 1, none⟩ = some (.int .i64 a1_1) := hS_
     obtain ⟨Ao80, co80, eo80⟩ := Kd.R_slice HO222.out
     (first | subst eo80 | (injection eo80 with f1_ f2_ f3_; have f4_ := f1_.symm; have f5_ := f3_.symm; clear f1_ f2_ f3_; subst f4_; subst f5_))
     obtain ⟨Ao82, co82, eo82⟩ := Kd.R_slice HO225.out
     (first | subst eo82 | (injection eo82 with f1_ f2_ f3_; have f4_ := f1_.symm; have f5_ := f3_.symm; clear f1_ f2_ f3_; subst f4_; subst f5_))
     refine norm_ (a' := ?_) ?_ ?_
     rotate_left
     ·simp only [putAll, Act.put, List.setIfInBounds_toArray, List.set_cons_zero, List.set_cons_succ]
      rfl
     refine one_ (i := 6) (N := none) #[true, true, true, true, true, true, true, false] rfl rfl (one_of HT_.out (by kernel_rfl)) (by decide) (fun K hK => ?_)
     have hs81 : w79.cell? ⟨gb227, 0, none⟩ = some (.slice none 0 0) := (blk_cell BK227.out 0).trans rfl
     have hfs81 := blk_frozen BK227.out 0
     have hns81_0 := NB217_227.out
     have hns81_1 := NB218_227.out
     have hns81_2 := NB219_227.out
     have hms81_0 := NB227_217.out
     have hms81_1 := NB227_218.out
     have hms81_2 := NB227_219.out
     have hs83 : w79.cell? ⟨gb227, 1, none⟩ = some (.slice none 0 0) := (blk_cell BK227.out 1).trans rfl
     have hfs83 := blk_frozen BK227.out 1
     have hns83_0 := NB217_227.out
     have hns83_1 := NB218_227.out
     have hns83_2 := NB219_227.out
     have hms83_0 := NB227_217.out
     have hms83_1 := NB227_218.out
     have hms83_2 := NB227_219.out
     refine skip_ (w1 := ?_) (by rfl) rfl ?_ ?_
     rotate_left
     ·go_simp
      rfl
     refine hK.out _ _ ⟨((cell_far (p := ⟨gb227, _, none⟩) NB217_227.out _).trans (((cell_far (p := ⟨gb227, _, none⟩) NB217_227.out _).trans (hHeld.1)))), ((cell_far (p := ⟨gb227, _, none⟩) NB217_227.out _).trans (((cell_far (p := ⟨gb227, _, none⟩) NB217_227.out _).trans (hHeld.2.1)))), ((cell_far (p := ⟨gb227, _, none⟩) NB218_227.out _).trans (((cell_far (p := ⟨gb227, _, none⟩) NB218_227.out _).trans (hHeld.2.2.1)))), ((cell_far (p := ⟨gb227, _, none⟩) NB218_227.out _).trans (((cell_far (p := ⟨gb227, _, none⟩) NB218_227.out _).trans (hHeld.2.2.2))))⟩ (fun hHeld => ?_)
     clear hK K
     refine pure_ (i := 7) (N := some 6) (v := ?_) (a' := ?_) #[true, true, true, true, true, true, true, true] rfl rfl (any_of HT_.out (by kernel_rfl)) (fun _ _ _ h => h) (Or.inl ⟨by rfl, ?_⟩) ?_ ?_
     rotate_left
     ·intro w'
      go_simp
      with_reducible rfl
     rotate_left
     ·simp only [Act.put, List.setIfInBounds_toArray, List.set_cons_zero, List.set_cons_succ, i64_w, i32_w]
      rfl
     refine done_ (done_of HT_.out (by kernel_rfl)) ?_
     have n0_ : Aside0 (Kd.R (Kd.int .i64) 3 ((w79.setCell ⟨gb227, 0, none⟩ (.slice Ao80 t220.length co80)).setCell ⟨gb227, 1, none⟩ (.slice Ao82 t223.length co82)) w.heap.size (fun k_ => nS k_ Ao82 t223.length co82) (.slice Ao80 t220.length co80) t220) := ⟨by (with_reducible repeat (first | apply Kd.R_alloc | apply Kd.R_drewN | apply Kd.R_drew)); exact Kd.R_mono (Kd.R_far (p := ⟨gb227, 1, none⟩) (Kd.R_far (p := ⟨gb227, 0, none⟩) (Kd.R_types HO222.out BK227.out (by decide)) (fun _ hk => hk.2) (.slice Ao80 t220.length co80)) (fun _ hk => hk.2) (.slice Ao82 t223.length co82)) (fun _ hk => hk.1)⟩
     have n1_ : Aside0 (Kd.R (Kd.int .i64) 3 ((w79.setCell ⟨gb227, 0, none⟩ (.slice Ao80 t220.length co80)).setCell ⟨gb227, 1, none⟩ (.slice Ao82 t223.length co82)) w.heap.size (fun k_ => nS k_ Ao80 t220.length co80) (.slice Ao82 t223.length co82) t223) := ⟨by (with_reducible repeat (first | apply Kd.R_alloc | apply Kd.R_drewN | apply Kd.R_drew)); exact Kd.R_mono (Kd.R_far (p := ⟨gb227, 1, none⟩) (Kd.R_far (p := ⟨gb227, 0, none⟩) (Kd.R_types HO225.out BK227.out (by decide)) (fun _ hk => hk.2) (.slice Ao80 t220.length co80)) (fun _ hk => hk.2) (.slice Ao82 t223.length co82)) (fun _ hk => hk.1)⟩
     have n2_ : Aside0 (((w79.setCell ⟨gb227, 0, none⟩ (.slice Ao80 t220.length co80)).setCell ⟨gb227, 1, none⟩ (.slice Ao82 t223.length co82)).heap[gb217]? = some (.cells #[.slice A0_0 l0_0.length c0_0, .slice A0_1 l0_1.length c0_1] 26 (0, 0))) := ⟨xff NB217_227.out NB217_227.out BK217.out⟩
     have n3_ : Aside0 (((w79.setCell ⟨gb227, 0, none⟩ (.slice Ao80 t220.length co80)).setCell ⟨gb227, 1, none⟩ (.slice Ao82 t223.length co82)).heap[gb218]? = some (.cells #[.int .i64 a1_0, .int .i64 a1_1] 41 (0, 0))) := ⟨xff NB218_227.out NB218_227.out BK218.out⟩
     have n4_ : Aside0 (((w79.setCell ⟨gb227, 0, none⟩ (.slice Ao80 t220.length co80)).setCell ⟨gb227, 1, none⟩ (.slice Ao82 t223.length co82)).heap[gb219]? = some (.cells #[.slice none 0 0, .slice none 0 0] 26 (0, 0))) := ⟨xff NB219_227.out NB219_227.out BK219.out⟩
     have n5_ : Aside0 (((w79.setCell ⟨gb227, 0, none⟩ (.slice Ao80 t220.length co80)).setCell ⟨gb227, 1, none⟩ (.slice Ao82 t223.length co82)).heap[gb227]? = some (.cells #[.slice Ao80 t220.length co80, .slice Ao82 t223.length co82] 26 (0, 0))) := ⟨by (with_reducible repeat (first | refine blk_drewN ?_ _ | refine blk_drew ?_ | refine blk_alloc ?_ _)); refine blk_put (cs := #[.slice Ao80 t220.length co80, .slice none 0 0]) ?_ 1 _ rfl; (with_reducible repeat (first | refine blk_drewN ?_ _ | refine blk_drew ?_ | refine blk_alloc ?_ _)); refine blk_put (cs := #[.slice none 0 0, .slice none 0 0]) ?_ 0 _ rfl; (with_reducible repeat (first | refine blk_drewN ?_ _ | refine blk_drew ?_ | refine blk_alloc ?_ _)); exact BK227.out⟩
     have n6_ : Aside0 (Below w.heap.size w ((w79.setCell ⟨gb227, 0, none⟩ (.slice Ao80 t220.length co80)).setCell ⟨gb227, 1, none⟩ (.slice Ao82 t223.length co82))) := ⟨xs HB.out⟩
     (try clear HO222)
     (try clear HO225)
     (try clear BK217)
     (try clear BK218)
     (try clear BK219)
     (try clear BK227)
     (try clear HB)
     generalize ((w79.setCell ⟨gb227, 0, none⟩ (.slice Ao80 t220.length co80)).setCell ⟨gb227, 1, none⟩ (.slice Ao82 t223.length co82)) = w84 at n0_ n1_ n2_ n3_ n4_ n5_ n6_ ⊢
     have HO222 := n0_
     have HO225 := n1_
     have BK217 := n2_
     have BK218 := n3_
     have BK219 := n4_
     have BK227 := n5_
     have HB := n6_
     clear n0_ n1_ n2_ n3_ n4_ n5_ n6_
     have hnb85 := NB218_217.out
     have hnc85 := NB217_218.out
     have hnb86 := NB218_219.out
     have hnc86 := NB219_218.out
     have hnb87 := NB218_227.out
     have hnc87 := NB227_218.out
     have hcz88_0 : w84.cell? ⟨gb218, 0, none⟩ = some (.int .i64 a1_0) := (blk_cell BK218.out 0).trans rfl
     have hcz88_1 : w84.cell? ⟨gb218, 1, none⟩ = some (.int .i64 a1_1) := (blk_cell BK218.out 1).trans rfl
     have hfz88_0 := blk_frozen BK218.out 0
     have hfz88_1 := blk_frozen BK218.out 1
     have hnb89 := NB227_217.out
     have hnc89 := NB217_227.out
     have hnb90 := NB227_219.out
     have hnc90 := NB219_227.out
     have hcz91_0 : w84.cell? ⟨gb227, 0, none⟩ = some (.slice Ao80 t220.length co80) := (blk_cell BK227.out 0).trans rfl
     have hcz91_1 : w84.cell? ⟨gb227, 1, none⟩ = some (.slice Ao82 t223.length co82) := (blk_cell BK227.out 1).trans rfl
     have hfz91_0 := blk_frozen BK227.out 0
     have hfz91_1 := blk_frozen BK227.out 1
     have p232 : 0 ≤ (a1_1 : Int) := of_decide_eq_true (by first | (with_reducible assumption) | assumption)
     have q232 : a1_1 < (t223.length : Int) := of_decide_eq_true (by first | (with_reducible assumption) | assumption)
     obtain ⟨ad232, e232, hx232_0⟩ := Kd.at_int (Kd.R_reads' HO225.out).2.2 a1_1 p232 q232
     cases e232
     replace p232 := eq_true p232
     replace q232 := eq_true q232
     have p71 : 0 ≤ (a1_1 : Int) := of_decide_eq_true (by first | (with_reducible assumption) | assumption)
     have q71 : (a1_1 : Int) < ((t223.length : Int) : Int) := of_decide_eq_true (by first | (with_reducible assumption) | assumption)
     obtain ⟨go71, co71, eo71, gb71, gl71, cl71, HG71⟩ := Kd.R_form HO225.out (by omega)
     (first | cases eo71 | (injection eo71 with ea_ en_ ec_; (first | subst ea_ | (injection ea_ with ea_; subst ea_)); subst ec_; clear en_))
     have GB71 := Aside0.mk gb71
     have GG71 := Aside0.mk HG71
     clear gb71 gl71 HG71
     (first | simp only [add_plain] at hx232_0 | skip)
     obtain ⟨hx71_0, hf71_0⟩ := Kd.R_celln 0 HO225.out (a1_1 : Int) p71 q71
     replace p71 := eq_true p71
     replace q71 := eq_true q71
     obtain ⟨hy92_, hz92_⟩ := Kd.R_celln 0 HO225.out (a1_1 : Int) (of_decide_eq_true (by first | (with_reducible assumption) | assumption)) (of_decide_eq_true (by first | (with_reducible assumption) | assumption))
     have HP92 := Kd.R_putg HO225.out (a1_1 : Int) (wrap64 ((rd t223 a1_1) + t226))
     try go_wp2_with (first | ((with_reducible refine gate_store (t := 3) (p := 35) rfl ?_); refine store_event (t := 3) (p := 35) (v := ?vo_w93) (w1 := (w84.setCell ⟨go71, (a1_1 : Int).toNat, none⟩ (.int .i64 (wrap64 ((rd t223 a1_1) + t226))))) ?hg ?ho ?hn ?hr ?_; (case ho => rfl); (case hg => rfl); (case hn => rfl); (case hr => first | (go_simp; done) | (go_simp; rfl)); intro w93 hw; have hg : w84.grownBy w93 (some go71) := (by rw [hw]; exact HP92.2); have hp_ : Kd.R (Kd.int .i64) 3 w93 w.heap.size (fun k_ => nS k_ Ao80 t220.length co80) (.slice (some ⟨go71, 0, none⟩) t223.length co82) y233 := (by rw [hw, Ny233.out]; exact HP92.1); clear HP92; replace BK217 := Aside0.mk (blk_grown (g := gb217) (o := .cells #[.slice A0_0 l0_0.length c0_0, .slice A0_1 l0_1.length c0_1] 26 (0, 0)) (xb BK217.out) hg (Kd.R_ne HO225.out BK217.out (by decide))); replace BK218 := Aside0.mk (blk_grown (g := gb218) (o := .cells #[.int .i64 a1_0, .int .i64 a1_1] 41 (0, 0)) (xb BK218.out) hg (Kd.R_ne HO225.out BK218.out (by decide))); replace BK219 := Aside0.mk (blk_grown (g := gb219) (o := .cells #[.slice none 0 0, .slice none 0 0] 26 (0, 0)) (xb BK219.out) hg (Kd.R_ne HO225.out BK219.out (by decide))); replace HO222 := Aside0.mk (Kd.R_after (v := (.slice (some ⟨go71, 0, none⟩) t223.length co82)) (v1 := (.slice (some ⟨go71, 0, none⟩) t223.length co82)) (ok := (fun _ => True)) (xm HO222 (fun _ hk => ⟨trivial, hk⟩)) hg (.inl rfl)); replace BK227 := Aside0.mk (blk_grown (g := gb227) (o := .cells #[.slice Ao80 t220.length co80, .slice (some ⟨go71, 0, none⟩) t223.length co82] 26 (0, 0)) (xb BK227.out) hg (Kd.R_ne HO225.out BK227.out (by decide))); replace HO225 := Aside0.mk (hp_); replace HB := Aside0.mk ((by rw [hw]; exact below_set (HB.out) GB71.out : Below w.heap.size w w93)); clear hg hw hp_; have hcz94_0 : w93.cell? ⟨gb227, 0, none⟩ = some (.slice Ao80 t220.length co80) := (blk_cell BK227.out 0).trans rfl; have hcz94_1 : w93.cell? ⟨gb227, 1, none⟩ = some (.slice (some ⟨go71, 0, none⟩) t223.length co82) := (blk_cell BK227.out 1).trans rfl; have hfz94_0 := blk_frozen BK227.out 0; have hfz94_1 := blk_frozen BK227.out 1; have hnb95 := NB219_217.out; have hnc95 := NB217_219.out; have hcz96_0 : w93.cell? ⟨gb219, 0, none⟩ = some (.slice none 0 0) := (blk_cell BK219.out 0).trans rfl; have hcz96_1 : w93.cell? ⟨gb219, 1, none⟩ = some (.slice none 0 0) := (blk_cell BK219.out 1).trans rfl; have hfz96_0 := blk_frozen BK219.out 0; have hfz96_1 := blk_frozen BK219.out 1))
     refine bodyPost_ret (results_cell_row rfl _ _ gb219 26 #[.slice Ao80 t220.length co80, .slice (some ⟨go71, 0, none⟩) t223.length co82] (0, 0) _ rfl (by (with_reducible repeat (first | refine blk_drewN ?_ _ | refine blk_drew ?_ | refine blk_alloc ?_ _)); refine blk_put (cs := #[.slice Ao80 t220.length co80, .slice none 0 0]) ?_ 1 _ rfl; (with_reducible repeat (first | refine blk_drewN ?_ _ | refine blk_drew ?_ | refine blk_alloc ?_ _)); refine blk_put (cs := #[.slice none 0 0, .slice none 0 0]) ?_ 0 _ rfl; (with_reducible repeat (first | refine blk_drewN ?_ _ | refine blk_drew ?_ | refine blk_alloc ?_ _)); exact BK219.out) Try.underlying26 rfl (by kernel_rfl)) rfl ?_
     exact ⟨_, _, by first | rfl | (simp [errW_none, errW_some] <;> rfl) | (simp [*, errW_none, errW_some] <;> rfl), by (with_reducible repeat (first | apply Kd.R_alloc | apply Kd.R_drewN | apply Kd.R_drew)); exact Kd.R_mono (Kd.R_far (p := ⟨gb219, 1, none⟩) (Kd.R_far (p := ⟨gb219, 0, none⟩) (Kd.R_types HO222.out BK219.out (by decide)) (fun _ hk => hk.2) (.slice Ao80 t220.length co80)) (fun _ hk => hk.2) (.slice (some ⟨go71, 0, none⟩) t223.length co82)) (fun _ hk => hk.1.2), by (with_reducible repeat (first | apply Kd.R_alloc | apply Kd.R_drewN | apply Kd.R_drew)); exact Kd.R_mono (Kd.R_far (p := ⟨gb219, 1, none⟩) (Kd.R_far (p := ⟨gb219, 0, none⟩) (Kd.R_types HO225.out BK219.out (by decide)) (fun _ hk => hk.2) (.slice Ao80 t220.length co80)) (fun _ hk => hk.2) (.slice (some ⟨go71, 0, none⟩) t223.length co82)) (fun _ hk => hk.1), by repeat (first | (with_reducible first | exact HB.out | apply below_alloc | apply pw_below_drewN | apply below_drew1 | refine below_set ?_ GE217.out | refine below_set ?_ GE218.out | refine below_set ?_ GE219.out | refine below_set ?_ GE227.out) | exact HB.out)⟩
    ·rw [if_neg c70] at H
     exact absurd H (by simp)
   ·rw [if_neg c69] at H
    exact absurd H (by simp)
  ·rw [if_neg c68] at H
   have c68b0 : decide (0 ≤ a1_1) = false := decide_eq_false c68
   clear c68
   simp only [Option.some.injEq, Prod.mk.injEq] at H
   obtain ⟨rfl, rfl⟩ := H
   go_enter Try.func78, Try.ntmps78
   try go_wp2_with (first | ((with_reducible refine gate_dst (N := 2) rfl ?_); refine box_event ?hg (N := 2) ?hd (cs := #[.slice A0_0 l0_0.length c0_0, .slice A0_1 l0_1.length c0_1]) (t := 26) ?hr ?_; (case hd => rfl); (case hg => rfl); (case hr => first | (go_simp; done) | (go_simp; rfl)); intro gb217 hg w97 hbox hb; have BK217 := Aside0.mk (hbox); have GW217 := xg HB hg; have GE217 := xg HB hg; replace HB := xp HB hb; clear hb hbox hg) | ((with_reducible refine gate_dst (N := 3) rfl ?_); refine box_event ?hg (N := 3) ?hd (cs := #[.int .i64 a1_0, .int .i64 a1_1]) (t := 41) ?hr ?_; (case hd => rfl); (case hg => rfl); (case hr => first | (go_simp; done) | (go_simp; rfl)); intro gb218 hg w98 hbox hb; have BK218 := Aside0.mk (hbox); have GW218 := xg HB hg; have GE218 := xg HB hg; replace HB := xp HB hb; have NB217_218 := xl BK217 hg; have NB218_217 := xh BK217 hg; replace BK217 := xk BK217 hb; clear hb hbox hg) | ((with_reducible refine gate_dst (N := 4) rfl ?_); refine box_event ?hg (N := 4) ?hd (cs := #[.slice none 0 0, .slice none 0 0]) (t := 26) ?hr ?_; (case hd => rfl); (case hg => rfl); (case hr => first | (go_simp; done) | (go_simp; rfl)); intro gb219 hg w99 hbox hb; have BK219 := Aside0.mk (hbox); have GW219 := xg HB hg; have GE219 := xg HB hg; replace HB := xp HB hb; have NB217_219 := xl BK217 hg; have NB219_217 := xh BK217 hg; replace BK217 := xk BK217 hb; have NB218_219 := xl BK218 hg; have NB219_218 := xh BK218 hg; replace BK218 := xk BK218 hb; clear hb hbox hg))
   replace BK217 := xv BK217
   replace BK218 := xv BK218
   replace BK219 := xv BK219
   replace HB := Aside0.mk (below_drew1 HB.out)
   refine start_ (n := 8) (S := fun w' => w'.cell? ⟨gb217, 0, none⟩ = some (.slice A0_0 l0_0.length c0_0) ∧ w'.cell? ⟨gb217, 1, none⟩ = some (.slice A0_1 l0_1.length c0_1) ∧ w'.cell? ⟨gb218, 0, none⟩ = some (.int .i64 a1_0) ∧ w'.cell? ⟨gb218, 1, none⟩ = some (.int .i64 a1_1)) (ds := []) #[false, false, false, false, false, false, false, false] (by kernel_rfl) rfl rfl ⟨(blk_cell BK217.out 0).trans rfl, (blk_cell BK217.out 1).trans rfl, (blk_cell BK218.out 0).trans rfl, (blk_cell BK218.out 1).trans rfl⟩ (fun hHeld => ?_); refine with_tabW impl_Vessels_behind.tab1 impl_Vessels_behind.bits1 (fun HT_ HW_ => ?_)
   generalize w99.drew = w100 at BK217 BK218 BK219 HB hHeld ⊢
   refine take_ (i := 0) (N := some 7) (v := ?_) (a' := ?_) #[true, false, false, false, false, false, false, false] rfl rfl (take_ofW HT_.out HW_.out (by kernel_rfl)) (fun _ _ _ h => h) (Or.inl ⟨by rfl, ?_⟩) hHeld ?_ ?_
   rotate_left
   ·rintro w' ⟨s0, s1, s2, s3⟩
    go_simp
    with_reducible rfl
   rotate_left
   ·simp only [Act.put, List.setIfInBounds_toArray, List.set_cons_zero, List.set_cons_succ, i64_w, i32_w]
    rfl
   refine take_ (i := 2) (N := some 9) (v := ?_) (a' := ?_) #[true, false, true, false, false, false, false, false] rfl rfl (take_ofW HT_.out HW_.out (by kernel_rfl)) (fun _ _ _ h => h) (Or.inl ⟨by rfl, ?_⟩) hHeld ?_ ?_
   rotate_left
   ·rintro w' ⟨s0, s1, s2, s3⟩
    go_simp
    with_reducible rfl
   rotate_left
   ·simp only [Act.put, List.setIfInBounds_toArray, List.set_cons_zero, List.set_cons_succ, i64_w, i32_w]
    rfl
   refine take_ (i := 3) (N := some 10) (v := ?_) (a' := ?_) #[true, false, true, true, false, false, false, false] rfl rfl (take_ofW HT_.out HW_.out (by kernel_rfl)) (fun _ _ _ h => h) (Or.inl ⟨by rfl, ?_⟩) hHeld ?_ ?_
   rotate_left
   ·rintro w' ⟨s0, s1, s2, s3⟩
    go_simp
    with_reducible rfl
   rotate_left
   ·simp only [Act.put, List.setIfInBounds_toArray, List.set_cons_zero, List.set_cons_succ, i64_w, i32_w]
    rfl
   refine join_ (σ := Value × Value × Nat) 2 #[true, true, true, true, true, true, false, false] (fun s_ => [(8, .agg #[s_.1, s_.2.1]), (11, .int .i64 t226), (5, .pointer (some ⟨s_.2.2, 0, none⟩))]) (fun s_ w' => (w'.cell? ⟨gb217, 0, none⟩ = some (.slice A0_0 l0_0.length c0_0) ∧ w'.cell? ⟨gb217, 1, none⟩ = some (.slice A0_1 l0_1.length c0_1) ∧ w'.cell? ⟨gb218, 0, none⟩ = some (.int .i64 a1_0) ∧ w'.cell? ⟨gb218, 1, none⟩ = some (.int .i64 a1_1)) ∧ (Kd.R (Kd.int .i64) 3 w' w.heap.size (fun k_ => some k_ ≠ (s_.2.1 : Value).ownBlock) s_.1 t220) ∧ (Kd.R (Kd.int .i64) 3 w' w.heap.size (fun k_ => some k_ ≠ (s_.1 : Value).ownBlock) s_.2.1 t223) ∧ (w'.heap[gb217]? = some (.cells #[.slice A0_0 l0_0.length c0_0, .slice A0_1 l0_1.length c0_1] 26 (0, 0))) ∧ (w'.heap[gb218]? = some (.cells #[.int .i64 a1_0, .int .i64 a1_1] 41 (0, 0))) ∧ (w'.heap[gb219]? = some (.cells #[.slice none 0 0, .slice none 0 0] 26 (0, 0))) ∧ (w'.heap[s_.2.2]? = some (.cells #[.slice none 0 0, .slice none 0 0] 26 (0, 0))) ∧ (w.heap.size ≤ s_.2.2) ∧ (w.heap.size ≤ s_.2.2) ∧ (gb217 ≠ s_.2.2) ∧ (s_.2.2 ≠ gb217) ∧ (gb218 ≠ s_.2.2) ∧ (s_.2.2 ≠ gb218) ∧ (gb219 ≠ s_.2.2) ∧ (s_.2.2 ≠ gb219) ∧ (Below w.heap.size w w')) ?_ ?_
   rotate_left
   ·intro hCont
    refine two_ (i := 1) (j := 5) (Ni := some 8) (Nj := some 5) #[true, true, true, true, false, false, false, false] #[true, false, true, true, false, true, false, false] rfl rfl rfl rfl (two_of HT_.out (by kernel_rfl)) (by decide) (by decide) (fun K hK => ?_) (fun K hK => ?_)
    ·skip
     refine goes_ Try.func65 (by kernel_rfl) rfl #[.agg #[.slice A0_0 l0_0.length c0_0, .slice A0_1 l0_1.length c0_1]] (by rfl) rfl rfl (by (try simp only [List.map_toArray, List.map_cons, List.map_nil]); first | done | rfl | (simp only [List.length_drop, List.length_take]; rfl)) ?_
     with_reducible refine (impl_Vessels_own.calls _ _ l0_0 _ _ l0_1 t220 t223 _ ?side1 ?side2 ?side3 ?side4 A3.out).mono ?_
     (case side1 => exact xd ((Kd.C_below HR0_0.out HB.out)))
     (case side2 => exact HC0_0.out)
     (case side3 => exact xd ((Kd.C_below HR0_1.out HB.out)))
     (case side4 => exact HC0_1.out)
     rintro e w101 ⟨v221, v224, rfl, ho0, ho1, hb⟩
     refine ⟨_, rfl, ?_⟩
     have HO222 := Aside0.mk (Kd.R_lower ho0 (below_size (xs HB.out)))
     have HO225 := Aside0.mk (Kd.R_lower ho1 (below_size (xs HB.out)))
     replace BK217 := xk BK217 hb
     replace BK218 := xk BK218 hb
     replace BK219 := xk BK219 hb
     replace HB := xp HB hb
     (try clear hb)
     (try clear hb2)
     (try clear hk)
     (try clear hi)
     (try clear ho0)
     (try clear ho1)
     refine hK.out _ _ ⟨(blk_cell BK217.out 0).trans rfl, (blk_cell BK217.out 1).trans rfl, (blk_cell BK218.out 0).trans rfl, (blk_cell BK218.out 1).trans rfl⟩ (fun hHeld => ?_)
     clear hK K
     refine norm_ (a' := ?_) ?_ ?_
     rotate_left
     ·show Act.put _ (some 8) _ = _
      simp only [Act.put, List.setIfInBounds_toArray, List.set_cons_zero, List.set_cons_succ, i64_w, i32_w]
      rfl
     refine two_ (i := 4) (j := 5) (Ni := some 11) (Nj := some 5) #[true, true, true, true, true, false, false, false] #[true, true, true, true, false, true, false, false] rfl rfl rfl rfl (two_of HT_.out (by kernel_rfl)) (by decide) (by decide) (fun K hK => ?_) (fun K hK => ?_)
     ·skip
      refine goes_ Try.func83 (by kernel_rfl) rfl #[.agg #[.slice A0_0 l0_0.length c0_0, .slice A0_1 l0_1.length c0_1], .agg #[.int .i64 a1_0, .int .i64 a1_1]] (by rfl) rfl rfl (by (try simp only [List.map_toArray, List.map_cons, List.map_nil]); first | done | rfl | (simp only [List.length_drop, List.length_take]; rfl)) ?_
      with_reducible refine (impl_Vessels_amount.calls _ _ l0_0 _ _ l0_1 a1_0 a1_1 t226 _ ?side1 ?side2 ?side3 ?side4 A4.out).mono ?_
      (case side1 => exact xd ((Kd.C_below HR0_0.out HB.out)))
      (case side2 => exact HC0_0.out)
      (case side3 => exact xd ((Kd.C_below HR0_1.out HB.out)))
      (case side4 => exact HC0_1.out)
      rintro e w102 ⟨rfl, hb⟩
      refine ⟨_, rfl, ?_⟩
      replace HO222 := xq HO222 hb
      replace HO225 := xq HO225 hb
      replace BK217 := xk BK217 hb
      replace BK218 := xk BK218 hb
      replace BK219 := xk BK219 hb
      replace HB := xp HB hb
      (try clear hb)
      (try clear hb2)
      (try clear hk)
      (try clear hi)
      refine hK.out _ _ ⟨(blk_cell BK217.out 0).trans rfl, (blk_cell BK217.out 1).trans rfl, (blk_cell BK218.out 0).trans rfl, (blk_cell BK218.out 1).trans rfl⟩ (fun hHeld => ?_)
      clear hK K
      refine norm_ (a' := ?_) ?_ ?_
      rotate_left
      ·show Act.put _ (some 11) _ = _
       simp only [Act.put, List.setIfInBounds_toArray, List.set_cons_zero, List.set_cons_succ, i64_w, i32_w]
       rfl
      refine one_ (i := 5) (N := some 5) #[true, true, true, true, true, true, false, false] rfl rfl (one_of HT_.out (by kernel_rfl)) (by decide) (fun K hK => ?_)
      refine box_step ?hg (N := 5) ?hd (cs := #[.slice none 0 0, .slice none 0 0]) (t := 26) ?hr ?_; (case hd => rfl); (case hg => rfl); (case hr => first | (go_simp; done) | (go_simp; rfl))
      intro gb227 hg w103 hbox hb
      replace HO222 := xq HO222 hb
      replace HO225 := xq HO225 hb
      have BK227 := Aside0.mk (hbox)
      have GW227 := xg HB hg
      have GE227 := xg HB hg
      replace HB := xp HB hb
      have NB217_227 := xl BK217 hg
      have NB227_217 := xh BK217 hg
      replace BK217 := xk BK217 hb
      have NB218_227 := xl BK218 hg
      have NB227_218 := xh BK218 hg
      replace BK218 := xk BK218 hb
      have NB219_227 := xl BK219 hg
      have NB227_219 := xh BK219 hg
      replace BK219 := xk BK219 hb
      clear hb hbox hg
      refine hK.out _ _ ⟨(blk_cell BK217.out 0).trans rfl, (blk_cell BK217.out 1).trans rfl, (blk_cell BK218.out 0).trans rfl, (blk_cell BK218.out 1).trans rfl⟩ (fun hHeld => ?_)
      clear hK K
      refine norm_ (a' := ?_) ?_ ?_
      rotate_left
      ·show Act.put _ (some 5) _ = _
       simp only [Act.put, List.setIfInBounds_toArray, List.set_cons_zero, List.set_cons_succ, i64_w, i32_w]
       rfl
      exact norm_ (by simp only [putAll, Act.put, List.setIfInBounds_toArray, List.set_cons_zero, List.set_cons_succ]) (hCont (v221, v224, gb227) _ ⟨hHeld, (xr HO222.out), (xr HO225.out), (xb BK217.out), (xb BK218.out), (xb BK219.out), (xb BK227.out), GW227.out, GE227.out, NB217_227.out, NB227_217.out, NB218_227.out, NB227_218.out, NB219_227.out, NB227_219.out, (xs HB.out)⟩)
     ·skip
      refine box_step ?hg (N := 5) ?hd (cs := #[.slice none 0 0, .slice none 0 0]) (t := 26) ?hr ?_; (case hd => rfl); (case hg => rfl); (case hr => first | (go_simp; done) | (go_simp; rfl))
      intro gb227 hg w102 hbox hb
      replace HO222 := xq HO222 hb
      replace HO225 := xq HO225 hb
      have BK227 := Aside0.mk (hbox)
      have GW227 := xg HB hg
      have GE227 := xg HB hg
      replace HB := xp HB hb
      have NB217_227 := xl BK217 hg
      have NB227_217 := xh BK217 hg
      replace BK217 := xk BK217 hb
      have NB218_227 := xl BK218 hg
      have NB227_218 := xh BK218 hg
      replace BK218 := xk BK218 hb
      have NB219_227 := xl BK219 hg
      have NB227_219 := xh BK219 hg
      replace BK219 := xk BK219 hb
      clear hb hbox hg
      refine hK.out _ _ ⟨(blk_cell BK217.out 0).trans rfl, (blk_cell BK217.out 1).trans rfl, (blk_cell BK218.out 0).trans rfl, (blk_cell BK218.out 1).trans rfl⟩ (fun hHeld => ?_)
      clear hK K
      refine norm_ (a' := ?_) ?_ ?_
      rotate_left
      ·show Act.put _ (some 5) _ = _
       simp only [Act.put, List.setIfInBounds_toArray, List.set_cons_zero, List.set_cons_succ, i64_w, i32_w]
       rfl
      refine one_ (i := 4) (N := some 11) #[true, true, true, true, true, true, false, false] rfl rfl (one_of HT_.out (by kernel_rfl)) (by decide) (fun K hK => ?_)
      refine goes_ Try.func83 (by kernel_rfl) rfl #[.agg #[.slice A0_0 l0_0.length c0_0, .slice A0_1 l0_1.length c0_1], .agg #[.int .i64 a1_0, .int .i64 a1_1]] (by rfl) rfl rfl (by (try simp only [List.map_toArray, List.map_cons, List.map_nil]); first | done | rfl | (simp only [List.length_drop, List.length_take]; rfl)) ?_
      with_reducible refine (impl_Vessels_amount.calls _ _ l0_0 _ _ l0_1 a1_0 a1_1 t226 _ ?side1 ?side2 ?side3 ?side4 A4.out).mono ?_
      (case side1 => exact xd ((Kd.C_below HR0_0.out HB.out)))
      (case side2 => exact HC0_0.out)
      (case side3 => exact xd ((Kd.C_below HR0_1.out HB.out)))
      (case side4 => exact HC0_1.out)
      rintro e w103 ⟨rfl, hb⟩
      refine ⟨_, rfl, ?_⟩
      replace HO222 := xq HO222 hb
      replace HO225 := xq HO225 hb
      replace BK217 := xk BK217 hb
      replace BK218 := xk BK218 hb
      replace BK219 := xk BK219 hb
      replace BK227 := xk BK227 hb
      replace HB := xp HB hb
      (try clear hb)
      (try clear hb2)
      (try clear hk)
      (try clear hi)
      refine hK.out _ _ ⟨(blk_cell BK217.out 0).trans rfl, (blk_cell BK217.out 1).trans rfl, (blk_cell BK218.out 0).trans rfl, (blk_cell BK218.out 1).trans rfl⟩ (fun hHeld => ?_)
      clear hK K
      refine norm_ (a' := ?_) ?_ ?_
      rotate_left
      ·show Act.put _ (some 11) _ = _
       simp only [Act.put, List.setIfInBounds_toArray, List.set_cons_zero, List.set_cons_succ, i64_w, i32_w]
       rfl
      exact norm_ (by simp only [putAll, Act.put, List.setIfInBounds_toArray, List.set_cons_zero, List.set_cons_succ]) (hCont (v221, v224, gb227) _ ⟨hHeld, (xr HO222.out), (xr HO225.out), (xb BK217.out), (xb BK218.out), (xb BK219.out), (xb BK227.out), GW227.out, GE227.out, NB217_227.out, NB227_217.out, NB218_227.out, NB227_218.out, NB219_227.out, NB227_219.out, (xs HB.out)⟩)
    ·skip
     refine box_step ?hg (N := 5) ?hd (cs := #[.slice none 0 0, .slice none 0 0]) (t := 26) ?hr ?_; (case hd => rfl); (case hg => rfl); (case hr => first | (go_simp; done) | (go_simp; rfl))
     intro gb227 hg w101 hbox hb
     have BK227 := Aside0.mk (hbox)
     have GW227 := xg HB hg
     have GE227 := xg HB hg
     replace HB := xp HB hb
     have NB217_227 := xl BK217 hg
     have NB227_217 := xh BK217 hg
     replace BK217 := xk BK217 hb
     have NB218_227 := xl BK218 hg
     have NB227_218 := xh BK218 hg
     replace BK218 := xk BK218 hb
     have NB219_227 := xl BK219 hg
     have NB227_219 := xh BK219 hg
     replace BK219 := xk BK219 hb
     clear hb hbox hg
     refine hK.out _ _ ⟨(blk_cell BK217.out 0).trans rfl, (blk_cell BK217.out 1).trans rfl, (blk_cell BK218.out 0).trans rfl, (blk_cell BK218.out 1).trans rfl⟩ (fun hHeld => ?_)
     clear hK K
     refine norm_ (a' := ?_) ?_ ?_
     rotate_left
     ·show Act.put _ (some 5) _ = _
      simp only [Act.put, List.setIfInBounds_toArray, List.set_cons_zero, List.set_cons_succ, i64_w, i32_w]
      rfl
     refine one_ (i := 1) (N := some 8) #[true, true, true, true, false, true, false, false] rfl rfl (one_of HT_.out (by kernel_rfl)) (by decide) (fun K hK => ?_)
     refine goes_ Try.func65 (by kernel_rfl) rfl #[.agg #[.slice A0_0 l0_0.length c0_0, .slice A0_1 l0_1.length c0_1]] (by rfl) rfl rfl (by (try simp only [List.map_toArray, List.map_cons, List.map_nil]); first | done | rfl | (simp only [List.length_drop, List.length_take]; rfl)) ?_
     with_reducible refine (impl_Vessels_own.calls _ _ l0_0 _ _ l0_1 t220 t223 _ ?side1 ?side2 ?side3 ?side4 A3.out).mono ?_
     (case side1 => exact xd ((Kd.C_below HR0_0.out HB.out)))
     (case side2 => exact HC0_0.out)
     (case side3 => exact xd ((Kd.C_below HR0_1.out HB.out)))
     (case side4 => exact HC0_1.out)
     rintro e w102 ⟨v221, v224, rfl, ho0, ho1, hb⟩
     refine ⟨_, rfl, ?_⟩
     have HO222 := Aside0.mk (Kd.R_lower ho0 (below_size (xs HB.out)))
     have HO225 := Aside0.mk (Kd.R_lower ho1 (below_size (xs HB.out)))
     replace BK217 := xk BK217 hb
     replace BK218 := xk BK218 hb
     replace BK219 := xk BK219 hb
     replace BK227 := xk BK227 hb
     replace HB := xp HB hb
     (try clear hb)
     (try clear hb2)
     (try clear hk)
     (try clear hi)
     (try clear ho0)
     (try clear ho1)
     refine hK.out _ _ ⟨(blk_cell BK217.out 0).trans rfl, (blk_cell BK217.out 1).trans rfl, (blk_cell BK218.out 0).trans rfl, (blk_cell BK218.out 1).trans rfl⟩ (fun hHeld => ?_)
     clear hK K
     refine norm_ (a' := ?_) ?_ ?_
     rotate_left
     ·show Act.put _ (some 8) _ = _
      simp only [Act.put, List.setIfInBounds_toArray, List.set_cons_zero, List.set_cons_succ, i64_w, i32_w]
      rfl
     refine one_ (i := 4) (N := some 11) #[true, true, true, true, true, true, false, false] rfl rfl (one_of HT_.out (by kernel_rfl)) (by decide) (fun K hK => ?_)
     refine goes_ Try.func83 (by kernel_rfl) rfl #[.agg #[.slice A0_0 l0_0.length c0_0, .slice A0_1 l0_1.length c0_1], .agg #[.int .i64 a1_0, .int .i64 a1_1]] (by rfl) rfl rfl (by (try simp only [List.map_toArray, List.map_cons, List.map_nil]); first | done | rfl | (simp only [List.length_drop, List.length_take]; rfl)) ?_
     with_reducible refine (impl_Vessels_amount.calls _ _ l0_0 _ _ l0_1 a1_0 a1_1 t226 _ ?side1 ?side2 ?side3 ?side4 A4.out).mono ?_
     (case side1 => exact xd ((Kd.C_below HR0_0.out HB.out)))
     (case side2 => exact HC0_0.out)
     (case side3 => exact xd ((Kd.C_below HR0_1.out HB.out)))
     (case side4 => exact HC0_1.out)
     rintro e w103 ⟨rfl, hb⟩
     refine ⟨_, rfl, ?_⟩
     replace HO222 := xq HO222 hb
     replace HO225 := xq HO225 hb
     replace BK217 := xk BK217 hb
     replace BK218 := xk BK218 hb
     replace BK219 := xk BK219 hb
     replace BK227 := xk BK227 hb
     replace HB := xp HB hb
     (try clear hb)
     (try clear hb2)
     (try clear hk)
     (try clear hi)
     refine hK.out _ _ ⟨(blk_cell BK217.out 0).trans rfl, (blk_cell BK217.out 1).trans rfl, (blk_cell BK218.out 0).trans rfl, (blk_cell BK218.out 1).trans rfl⟩ (fun hHeld => ?_)
     clear hK K
     refine norm_ (a' := ?_) ?_ ?_
     rotate_left
     ·show Act.put _ (some 11) _ = _
      simp only [Act.put, List.setIfInBounds_toArray, List.set_cons_zero, List.set_cons_succ, i64_w, i32_w]
      rfl
     exact norm_ (by simp only [putAll, Act.put, List.setIfInBounds_toArray, List.set_cons_zero, List.set_cons_succ]) (hCont (v221, v224, gb227) _ ⟨hHeld, (xr HO222.out), (xr HO225.out), (xb BK217.out), (xb BK218.out), (xb BK219.out), (xb BK227.out), GW227.out, GE227.out, NB217_227.out, NB227_217.out, NB218_227.out, NB227_218.out, NB219_227.out, NB227_219.out, (xs HB.out)⟩)
   rintro ⟨v221, v224, gb227⟩ w104 ⟨hS_, h0_, h1_, h2_, h3_, h4_, h5_, h6_, h7_, h8_, h9_, h10_, h11_, h12_, h13_, h14_⟩
   have n0_ : Aside0 (Kd.R (Kd.int .i64) 3 w104 w.heap.size (fun k_ => nV k_ v224) v221 t220) := ⟨h0_⟩
   have n1_ : Aside0 (Kd.R (Kd.int .i64) 3 w104 w.heap.size (fun k_ => nV k_ v221) v224 t223) := ⟨h1_⟩
   have n2_ : Aside0 (w104.heap[gb217]? = some (.cells #[.slice A0_0 l0_0.length c0_0, .slice A0_1 l0_1.length c0_1] 26 (0, 0))) := ⟨h2_⟩
   have n3_ : Aside0 (w104.heap[gb218]? = some (.cells #[.int .i64 a1_0, .int .i64 a1_1] 41 (0, 0))) := ⟨h3_⟩
   have n4_ : Aside0 (w104.heap[gb219]? = some (.cells #[.slice none 0 0, .slice none 0 0] 26 (0, 0))) := ⟨h4_⟩
   have n5_ : Aside0 (w104.heap[gb227]? = some (.cells #[.slice none 0 0, .slice none 0 0] 26 (0, 0))) := ⟨h5_⟩
   have n6_ : Aside0 (w.heap.size ≤ gb227) := ⟨h6_⟩
   have n7_ : Aside0 (w.heap.size ≤ gb227) := ⟨h7_⟩
   have n8_ : Aside0 (gb217 ≠ gb227) := ⟨h8_⟩
   have n9_ : Aside0 (gb227 ≠ gb217) := ⟨h9_⟩
   have n10_ : Aside0 (gb218 ≠ gb227) := ⟨h10_⟩
   have n11_ : Aside0 (gb227 ≠ gb218) := ⟨h11_⟩
   have n12_ : Aside0 (gb219 ≠ gb227) := ⟨h12_⟩
   have n13_ : Aside0 (gb227 ≠ gb219) := ⟨h13_⟩
   have n14_ : Aside0 (Below w.heap.size w w104) := ⟨h14_⟩
   clear BK217
   clear BK218
   clear BK219
   clear HB
   clear h0_ h1_ h2_ h3_ h4_ h5_ h6_ h7_ h8_ h9_ h10_ h11_ h12_ h13_ h14_
   have HO222 := n0_
   have HO225 := n1_
   have BK217 := n2_
   have BK218 := n3_
   have BK219 := n4_
   have BK227 := n5_
   have GW227 := n6_
   have GE227 := n7_
   have NB217_227 := n8_
   have NB227_217 := n9_
   have NB218_227 := n10_
   have NB227_218 := n11_
   have NB219_227 := n12_
   have NB227_219 := n13_
   have HB := n14_
   clear n0_ n1_ n2_ n3_ n4_ n5_ n6_ n7_ n8_ n9_ n10_ n11_ n12_ n13_ n14_
   have hHeld : w104.cell? ⟨gb217, 0, none⟩ = some (.slice A0_0 l0_0.length c0_0) ∧ w104.cell? ⟨gb217, 1, none⟩ = some (.slice A0_1 l0_1.length c0_1) ∧ w104.cell? ⟨gb218, 0, none⟩ = some (.int .i64 a1_0) ∧ w104.cell? ⟨gb218, 1, none⟩ = some (.int .i64 a1_1) := hS_
   obtain ⟨Ao105, co105, eo105⟩ := Kd.R_slice HO222.out
   (first | subst eo105 | (injection eo105 with f1_ f2_ f3_; have f4_ := f1_.symm; have f5_ := f3_.symm; clear f1_ f2_ f3_; subst f4_; subst f5_))
   obtain ⟨Ao107, co107, eo107⟩ := Kd.R_slice HO225.out
   (first | subst eo107 | (injection eo107 with f1_ f2_ f3_; have f4_ := f1_.symm; have f5_ := f3_.symm; clear f1_ f2_ f3_; subst f4_; subst f5_))
   refine norm_ (a' := ?_) ?_ ?_
   rotate_left
   ·simp only [putAll, Act.put, List.setIfInBounds_toArray, List.set_cons_zero, List.set_cons_succ]
    rfl
   refine one_ (i := 6) (N := none) #[true, true, true, true, true, true, true, false] rfl rfl (one_of HT_.out (by kernel_rfl)) (by decide) (fun K hK => ?_)
   have hs106 : w104.cell? ⟨gb227, 0, none⟩ = some (.slice none 0 0) := (blk_cell BK227.out 0).trans rfl
   have hfs106 := blk_frozen BK227.out 0
   have hns106_0 := NB217_227.out
   have hns106_1 := NB218_227.out
   have hns106_2 := NB219_227.out
   have hms106_0 := NB227_217.out
   have hms106_1 := NB227_218.out
   have hms106_2 := NB227_219.out
   have hs108 : w104.cell? ⟨gb227, 1, none⟩ = some (.slice none 0 0) := (blk_cell BK227.out 1).trans rfl
   have hfs108 := blk_frozen BK227.out 1
   have hns108_0 := NB217_227.out
   have hns108_1 := NB218_227.out
   have hns108_2 := NB219_227.out
   have hms108_0 := NB227_217.out
   have hms108_1 := NB227_218.out
   have hms108_2 := NB227_219.out
   refine skip_ (w1 := ?_) (by rfl) rfl ?_ ?_
   rotate_left
   ·go_simp
    rfl
   refine hK.out _ _ ⟨((cell_far (p := ⟨gb227, _, none⟩) NB217_227.out _).trans (((cell_far (p := ⟨gb227, _, none⟩) NB217_227.out _).trans (hHeld.1)))), ((cell_far (p := ⟨gb227, _, none⟩) NB217_227.out _).trans (((cell_far (p := ⟨gb227, _, none⟩) NB217_227.out _).trans (hHeld.2.1)))), ((cell_far (p := ⟨gb227, _, none⟩) NB218_227.out _).trans (((cell_far (p := ⟨gb227, _, none⟩) NB218_227.out _).trans (hHeld.2.2.1)))), ((cell_far (p := ⟨gb227, _, none⟩) NB218_227.out _).trans (((cell_far (p := ⟨gb227, _, none⟩) NB218_227.out _).trans (hHeld.2.2.2))))⟩ (fun hHeld => ?_)
   clear hK K
   refine pure_ (i := 7) (N := some 6) (v := ?_) (a' := ?_) #[true, true, true, true, true, true, true, true] rfl rfl (any_of HT_.out (by kernel_rfl)) (fun _ _ _ h => h) (Or.inl ⟨by rfl, ?_⟩) ?_ ?_
   rotate_left
   ·intro w'
    go_simp
    with_reducible rfl
   rotate_left
   ·simp only [Act.put, List.setIfInBounds_toArray, List.set_cons_zero, List.set_cons_succ, i64_w, i32_w]
    rfl
   refine done_ (done_of HT_.out (by kernel_rfl)) ?_
   have hnb109 := NB218_217.out
   have hnc109 := NB217_218.out
   have hnb110 := NB218_219.out
   have hnc110 := NB219_218.out
   have hnb111 := NB218_227.out
   have hnc111 := NB227_218.out
   have hcz112_0 : w104.cell? ⟨gb218, 0, none⟩ = some (.int .i64 a1_0) := (blk_cell BK218.out 0).trans rfl
   have hcz112_1 : w104.cell? ⟨gb218, 1, none⟩ = some (.int .i64 a1_1) := (blk_cell BK218.out 1).trans rfl
   have hfz112_0 := blk_frozen BK218.out 0
   have hfz112_1 := blk_frozen BK218.out 1
   have hnb113 := NB227_217.out
   have hnc113 := NB217_227.out
   have hnb114 := NB227_219.out
   have hnc114 := NB219_227.out
   have hcz115_0 : w104.cell? ⟨gb227, 0, none⟩ = some (.slice none 0 0) := (blk_cell BK227.out 0).trans rfl
   have hcz115_1 : w104.cell? ⟨gb227, 1, none⟩ = some (.slice none 0 0) := (blk_cell BK227.out 1).trans rfl
   have hfz115_0 := blk_frozen BK227.out 0
   have hfz115_1 := blk_frozen BK227.out 1
   have hnb116 := NB219_217.out
   have hnc116 := NB217_219.out
   have hcz117_0 : w104.cell? ⟨gb219, 0, none⟩ = some (.slice none 0 0) := (blk_cell BK219.out 0).trans rfl
   have hcz117_1 : w104.cell? ⟨gb219, 1, none⟩ = some (.slice none 0 0) := (blk_cell BK219.out 1).trans rfl
   have hfz117_0 := blk_frozen BK219.out 0
   have hfz117_1 := blk_frozen BK219.out 1
   try go_wp2
   refine bodyPost_ret (results_cell_row rfl _ _ gb219 26 #[.slice Ao105 t220.length co105, .slice Ao107 t223.length co107] (0, 0) _ rfl (by (with_reducible repeat (first | refine blk_drewN ?_ _ | refine blk_drew ?_ | refine blk_alloc ?_ _)); refine blk_put (cs := #[.slice Ao105 t220.length co105, .slice none 0 0]) ?_ 1 _ rfl; (with_reducible repeat (first | refine blk_drewN ?_ _ | refine blk_drew ?_ | refine blk_alloc ?_ _)); refine blk_put (cs := #[.slice none 0 0, .slice none 0 0]) ?_ 0 _ rfl; (with_reducible repeat (first | refine blk_drewN ?_ _ | refine blk_drew ?_ | refine blk_alloc ?_ _)); refine blk_far ?_ NB219_227.out _; (with_reducible repeat (first | refine blk_drewN ?_ _ | refine blk_drew ?_ | refine blk_alloc ?_ _)); refine blk_far ?_ NB219_227.out _; (with_reducible repeat (first | refine blk_drewN ?_ _ | refine blk_drew ?_ | refine blk_alloc ?_ _)); exact BK219.out) Try.underlying26 rfl (by kernel_rfl)) rfl ?_
   exact ⟨_, _, by first | rfl | (simp [errW_none, errW_some] <;> rfl) | (simp [*, errW_none, errW_some] <;> rfl), by (with_reducible repeat (first | apply Kd.R_alloc | apply Kd.R_drewN | apply Kd.R_drew)); exact Kd.R_mono (Kd.R_far (p := ⟨gb219, 1, none⟩) (Kd.R_far (p := ⟨gb219, 0, none⟩) (Kd.R_far (p := ⟨gb227, 1, none⟩) (Kd.R_far (p := ⟨gb227, 0, none⟩) (Kd.R_types (Kd.R_types HO222.out BK227.out (by decide)) BK219.out (by decide)) (fun _ hk => hk.1.2) (.slice Ao105 t220.length co105)) (fun _ hk => hk.1.2) (.slice Ao107 t223.length co107)) (fun _ hk => hk.2) (.slice Ao105 t220.length co105)) (fun _ hk => hk.2) (.slice Ao107 t223.length co107)) (fun _ hk => hk.1.1), by (with_reducible repeat (first | apply Kd.R_alloc | apply Kd.R_drewN | apply Kd.R_drew)); exact Kd.R_mono (Kd.R_far (p := ⟨gb219, 1, none⟩) (Kd.R_far (p := ⟨gb219, 0, none⟩) (Kd.R_far (p := ⟨gb227, 1, none⟩) (Kd.R_far (p := ⟨gb227, 0, none⟩) (Kd.R_types (Kd.R_types HO225.out BK227.out (by decide)) BK219.out (by decide)) (fun _ hk => hk.1.2) (.slice Ao105 t220.length co105)) (fun _ hk => hk.1.2) (.slice Ao107 t223.length co107)) (fun _ hk => hk.2) (.slice Ao105 t220.length co105)) (fun _ hk => hk.2) (.slice Ao107 t223.length co107)) (fun _ hk => hk.1.1), by repeat (first | (with_reducible first | exact HB.out | apply below_alloc | apply pw_below_drewN | apply below_drew1 | refine below_set ?_ GE217.out | refine below_set ?_ GE218.out | refine below_set ?_ GE219.out | refine below_set ?_ GE227.out) | exact HB.out)⟩

end Go.Proofs.Ytobkbpoamicjgaa.PFnExactStatesAlong

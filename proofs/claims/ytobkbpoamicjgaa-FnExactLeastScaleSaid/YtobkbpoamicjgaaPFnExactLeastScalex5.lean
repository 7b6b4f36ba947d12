/- Lean functions of the Go functions that the law FnExactLeastScale reaches, and the proofs that the calls come to what they say (made by program). -/
import Derived.Test.YtobkbpoamicjgaaAb
import Derived.Test.YtobkbpoamicjgaaPFnExactLeastScalex0
import Derived.Test.YtobkbpoamicjgaaPFnExactLeastScalex4
namespace Go.Proofs.Ytobkbpoamicjgaa.PFnExactLeastScale
open Go.RowKit Go.Proofs.YtobkbpoamicjgaaW.PrintWords Go.Proofs.YtobkbpoamicjgaaW.PrintLast Go.Proofs.YtobkbpoamicjgaaW.PrintMore Go.Proofs.Ytobkbpoamicjgaa.Ab
attribute [local go_sem] max2_int min2_int max_two min_two max_three min_three max_four min_four   -- for this text's walks alone
set_option linter.unusedVariables false
set_option linter.unusedSimpArgs false

/-! ### impl_LeastScale: function 25 -/
def impl_LeastScale.l0 : Nat → Int → Int → Int → List Int → List Int → Option (List Int × List Int × Int × Bool)
  | 0, _, _, _, _, _ => none
  | k + 1, x6, x18, x19, x184000, x184001 => if x19 < x18 then (if 0 ≤ x19 then (if x19 < (x184000.length : Int) then (if x6 = 0 then (none) else (if x19 < (x184001.length : Int) then (impl_LeastScale.l0 k x6 x18 (wrap64 (x19 + 1)) (x184000.set (x19 : Int).toNat (wrap64 (Int.tdiv (rd x184000 x19) x6))) (x184001.set (x19 : Int).toNat (wrap64 (Int.tdiv (rd x184001 x19) x6)))) else (none))) else (none)) else (none)) else (some (x184000, x184001, x6, true))
def impl_LeastScale.f (k : Nat) (l0_0 : List Int) (l0_1 : List Int) : Option (List Int × List Int × Int × Bool) := (impl_AreVessels.f k l0_0 l0_1).bind fun t175 => (if t175 = true then ((impl_Vessels_own.f l0_0 l0_1).bind fun bt176 => ((impl_Vessels_divisor.f k l0_0 l0_1).bind fun t182 => (impl_LeastScale.l0 k t182 (bt176.1.length : Int) 0 bt176.1 bt176.2))) else (some (([] : List Int), ([] : List Int), 0, false)))
theorem impl_LeastScale.mono_l : ∀ k, (∀ y0 y1 y2 y3 y4, LeO (impl_LeastScale.l0 k y0 y1 y2 y3 y4) (impl_LeastScale.l0 (k + 1) y0 y1 y2 y3 y4))
 | 0 => fun _ _ _ _ _ r h => by simp [impl_LeastScale.l0] at h
 | k + 1 => by
  have ih0 := impl_LeastScale.mono_l k
  ·intro y0 y1 y2 y3 y4
   unfold impl_LeastScale.l0
   repeat' first
   | (with_reducible exact ih0 _ _ _ _ _)
   | (with_reducible exact impl_AreVessels.mono _ _ _)
   | (with_reducible exact impl_Vessels_divisor.mono _ _ _)
   | (with_reducible exact LeO.refl _)
   | (with_reducible exact LeO.none _)
   | (with_reducible refine LeO.ite ?_ ?_)
   | (with_reducible refine LeO.bind ?_ (fun _ => ?_))
   | exact ih0 _ _ _ _ _
   | exact impl_AreVessels.mono _ _ _
   | exact impl_Vessels_divisor.mono _ _ _
   | exact LeO.none _
   | refine LeO.ite ?_ ?_
   | refine LeO.bind ?_ (fun _ => ?_)
theorem impl_LeastScale.mono : ∀ a0 a1 k, LeO (impl_LeastScale.f k a0 a1) (impl_LeastScale.f (k + 1) a0 a1) := by
 intro a0 a1 k
 have ih0 := impl_LeastScale.mono_l k
 unfold impl_LeastScale.f
 repeat' first
   | (with_reducible exact ih0 _ _ _ _ _)
   | (with_reducible exact impl_AreVessels.mono _ _ _)
   | (with_reducible exact impl_Vessels_divisor.mono _ _ _)
   | (with_reducible exact LeO.refl _)
   | (with_reducible exact LeO.none _)
   | (with_reducible refine LeO.ite ?_ ?_)
   | (with_reducible refine LeO.bind ?_ (fun _ => ?_))
   | exact ih0 _ _ _ _ _
   | exact impl_AreVessels.mono _ _ _
   | exact impl_Vessels_divisor.mono _ _ _
   | exact LeO.none _
   | refine LeO.ite ?_ ?_
   | refine LeO.bind ?_ (fun _ => ?_)
set_option maxHeartbeats 8000000 in
set_option maxRecDepth 100000 in
theorem impl_LeastScale.calls (k : Nat) (A0_0 : Option Addr) (c0_0 : Nat) (l0_0 : List Int) (A0_1 : Option Addr) (c0_1 : Nat) (l0_1 : List Int) (r1 : List Int) (r2 : List Int) (r3 : Int) (r4 : Bool) (w : World) (hr0_0 : Kd.C (Kd.int .i64) w A0_0 l0_0.length l0_0) (hc0_0 : l0_0.length ≤ c0_0) (hr0_1 : Kd.C (Kd.int .i64) w A0_1 l0_1.length l0_1) (hc0_1 : l0_1.length ≤ c0_1) (h : impl_LeastScale.f k l0_0 l0_1 = some (r1, r2, r3, r4)) :
  Calls Try.prog 25 #[.agg #[.slice A0_0 l0_0.length c0_0, .slice A0_1 l0_1.length c0_1]] w fun e w' => ∃ v0_ v1_ : Value, e = .returned (.tuple #[.agg #[v0_, v1_], .int .i64 r3, .bool r4]) ∧ Kd.R (Kd.int .i64) 3 w' w.heap.size (fun k_ => nV k_ v1_) v0_ r1 ∧ Kd.R (Kd.int .i64) 3 w' w.heap.size (fun k_ => nV k_ v0_) v1_ r2 ∧ Below w.heap.size w w' := by
 have hu26 := Try.underlying26
 have HR0_0 := Aside0.mk hr0_0
 have HC0_0 := Aside0.mk hc0_0
 clear hr0_0 hc0_0
 have HR0_1 := Aside0.mk hr0_1
 have HC0_1 := Aside0.mk hc0_1
 clear hr0_1 hc0_1
 have HB := Aside0.mk (Below.refl w.heap.size w)
 have H : ((impl_AreVessels.f k l0_0 l0_1).bind fun t175 => (if t175 = true then ((impl_Vessels_own.f l0_0 l0_1).bind fun bt176 => ((impl_Vessels_divisor.f k l0_0 l0_1).bind fun t182 => (impl_LeastScale.l0 k t182 (bt176.1.length : Int) 0 bt176.1 bt176.2))) else (some (([] : List Int), ([] : List Int), 0, false)))) = some (r1, r2, r3, r4) := h
 clear h
 replace H := Option.bind_eq_some_iff.mp H
 obtain ⟨t175, A20, H⟩ := H
 replace H : (if t175 = true then ((impl_Vessels_own.f l0_0 l0_1).bind fun bt176 => ((impl_Vessels_divisor.f k l0_0 l0_1).bind fun t182 => (impl_LeastScale.l0 k t182 (bt176.1.length : Int) 0 bt176.1 bt176.2))) else (some (([] : List Int), ([] : List Int), 0, false))) = some (r1, r2, r3, r4) := H
 have A2 := Aside0.mk A20
 clear A20
 by_cases c3 : t175 = true
 ·subst c3
  have H1 : ((impl_Vessels_own.f l0_0 l0_1).bind fun bt176 => ((impl_Vessels_divisor.f k l0_0 l0_1).bind fun t182 => (impl_LeastScale.l0 k t182 (bt176.1.length : Int) 0 bt176.1 bt176.2))) = some (r1, r2, r3, r4) := by rw [if_pos rfl] at H; exact H
  clear H
  have H := H1
  clear H1
  replace H := Option.bind_eq_some_iff.mp H
  obtain ⟨⟨t176, t179⟩, A40, H⟩ := H
  replace H : ((impl_Vessels_divisor.f k l0_0 l0_1).bind fun t182 => (impl_LeastScale.l0 k t182 (t176.length : Int) 0 t176 t179)) = some (r1, r2, r3, r4) := H
  have A4 := Aside0.mk A40
  clear A40
  replace H := Option.bind_eq_some_iff.mp H
  obtain ⟨t182, A50, H⟩ := H
  replace H : (impl_LeastScale.l0 k t182 (t176.length : Int) 0 t176 t179) = some (r1, r2, r3, r4) := H
  have A5 := Aside0.mk A50
  clear A50
  have H' := Aside0.mk H
  clear H
  go_enter Try.func25, Try.ntmps25
  try go_wp2_with (first | ((with_reducible refine gate_dst (N := 1) rfl ?_); refine box_event ?hg (N := 1) ?hd (cs := #[.slice A0_0 l0_0.length c0_0, .slice A0_1 l0_1.length c0_1]) (t := 26) ?hr ?_; (case hd => rfl); (case hg => rfl); (case hr => first | (go_simp; done) | (go_simp; rfl)); intro gb173 hg w6 hbox hb; have BK173 := Aside0.mk (hbox); have GW173 := xg HB hg; have GE173 := xg HB hg; replace HB := xp HB hb; clear hb hbox hg) | ((with_reducible refine gate_dst (N := 2) rfl ?_); refine box_event ?hg (N := 2) ?hd (cs := #[.slice none 0 0, .slice none 0 0]) (t := 26) ?hr ?_; (case hd => rfl); (case hg => rfl); (case hr => first | (go_simp; done) | (go_simp; rfl)); intro gb174 hg w7 hbox hb; have BK174 := Aside0.mk (hbox); have GW174 := xg HB hg; have GE174 := xg HB hg; replace HB := xp HB hb; have NB173_174 := xl BK173 hg; have NB174_173 := xh BK173 hg; replace BK173 := xk BK173 hb; clear hb hbox hg; have hnb8 := NB173_174.out; have hnc8 := NB174_173.out; have hcz9_0 : w7.cell? ⟨gb173, 0, none⟩ = some (.slice A0_0 l0_0.length c0_0) := (blk_cell BK173.out 0).trans rfl; have hcz9_1 : w7.cell? ⟨gb173, 1, none⟩ = some (.slice A0_1 l0_1.length c0_1) := (blk_cell BK173.out 1).trans rfl; have hfz9_0 := blk_frozen BK173.out 0; have hfz9_1 := blk_frozen BK173.out 1) | ((with_reducible refine gate_callee (f := 71) rfl ?_); refine goesL_ (some 9) rfl rfl Try.func71 (by kernel_rfl) rfl #[.agg #[.slice A0_0 l0_0.length c0_0, .slice A0_1 l0_1.length c0_1]] rfl (by (try simp only [List.map_toArray, List.map_cons, List.map_nil]); first | done | rfl | (simp only [List.length_drop, List.length_take]; rfl)) ?_; (with_reducible refine (impl_AreVessels.calls k _ _ l0_0 _ _ l0_1 true _ ?side1 ?side2 ?side3 ?side4 A2.out).mono ?_); (case side1 => exact xd ((Kd.C_below HR0_0.out HB.out))); (case side2 => exact HC0_0.out); (case side3 => exact xd ((Kd.C_below HR0_1.out HB.out))); (case side4 => exact HC0_1.out); rintro e w10 ⟨rfl, hb⟩; refine ⟨_, rfl, ?_⟩; replace BK173 := xk BK173 hb; replace BK174 := xk BK174 hb; replace HB := xp HB hb; (try clear hb); (try clear hb2); (try clear hk); (try clear hi)))
  replace BK173 := xv BK173
  replace BK174 := xv BK174
  replace HB := Aside0.mk (below_drew1 HB.out)
  refine start_ (n := 7) (S := fun w' => w'.cell? ⟨gb173, 0, none⟩ = some (.slice A0_0 l0_0.length c0_0) ∧ w'.cell? ⟨gb173, 1, none⟩ = some (.slice A0_1 l0_1.length c0_1)) (ds := []) #[false, false, false, false, false, false, false] (by kernel_rfl) rfl rfl ⟨(blk_cell BK173.out 0).trans rfl, (blk_cell BK173.out 1).trans rfl⟩ (fun hHeld => ?_)
  generalize w10.drew = w11 at BK173 BK174 HB hHeld ⊢
  refine take_ (i := 0) (N := some 12) (v := ?_) (a' := ?_) #[true, false, false, false, false, false, false] rfl rfl (by kernel_rfl) (fun _ _ _ h => h) (Or.inl ⟨by rfl, ?_⟩) hHeld ?_ ?_
  rotate_left
  ·rintro w' ⟨s0, s1⟩
   go_simp
   with_reducible rfl
  rotate_left
  ·simp only [Act.put, List.setIfInBounds_toArray, List.set_cons_zero, List.set_cons_succ, i64_w, i32_w]
   rfl
  refine take_ (i := 2) (N := some 14) (v := ?_) (a' := ?_) #[true, false, true, false, false, false, false] rfl rfl (by kernel_rfl) (fun _ _ _ h => h) (Or.inl ⟨by rfl, ?_⟩) hHeld ?_ ?_
  rotate_left
  ·rintro w' ⟨s0, s1⟩
   go_simp
   with_reducible rfl
  rotate_left
  ·simp only [Act.put, List.setIfInBounds_toArray, List.set_cons_zero, List.set_cons_succ, i64_w, i32_w]
   rfl
  refine join_ (σ := Value × Value × Nat) 2 #[true, true, true, true, true, false, false] (fun s_ => [(13, .agg #[s_.1, s_.2.1]), (15, .int .i64 t182), (5, .pointer (some ⟨s_.2.2, 0, none⟩))]) (fun s_ w' => (w'.cell? ⟨gb173, 0, none⟩ = some (.slice A0_0 l0_0.length c0_0) ∧ w'.cell? ⟨gb173, 1, none⟩ = some (.slice A0_1 l0_1.length c0_1)) ∧ (Kd.R (Kd.int .i64) 3 w' w.heap.size (fun k_ => some k_ ≠ (s_.2.1 : Value).ownBlock) s_.1 t176) ∧ (Kd.R (Kd.int .i64) 3 w' w.heap.size (fun k_ => some k_ ≠ (s_.1 : Value).ownBlock) s_.2.1 t179) ∧ (w'.heap[gb173]? = some (.cells #[.slice A0_0 l0_0.length c0_0, .slice A0_1 l0_1.length c0_1] 26 (0, 0))) ∧ (w'.heap[gb174]? = some (.cells #[.slice none 0 0, .slice none 0 0] 26 (0, 0))) ∧ (w'.heap[s_.2.2]? = some (.cells #[.slice none 0 0, .slice none 0 0] 26 (0, 0))) ∧ (w.heap.size ≤ s_.2.2) ∧ (w.heap.size ≤ s_.2.2) ∧ (gb173 ≠ s_.2.2) ∧ (s_.2.2 ≠ gb173) ∧ (gb174 ≠ s_.2.2) ∧ (s_.2.2 ≠ gb174) ∧ (Below w.heap.size w w')) ?_ ?_
  rotate_left
  ·intro hCont
   refine two_ (i := 1) (j := 4) (Ni := some 13) (Nj := some 5) #[true, true, true, false, false, false, false] #[true, false, true, false, true, false, false] rfl rfl rfl rfl (by kernel_rfl) (by decide) (by decide) (fun K hK => ?_) (fun K hK => ?_)
   ·skip
    refine goes_ Try.func65 (by kernel_rfl) rfl #[.agg #[.slice A0_0 l0_0.length c0_0, .slice A0_1 l0_1.length c0_1]] (by rfl) rfl rfl (by (try simp only [List.map_toArray, List.map_cons, List.map_nil]); first | done | rfl | (simp only [List.length_drop, List.length_take]; rfl)) ?_
    with_reducible refine (impl_Vessels_own.calls _ _ l0_0 _ _ l0_1 t176 t179 _ ?side1 ?side2 ?side3 ?side4 A4.out).mono ?_
    (case side1 => exact xd ((Kd.C_below HR0_0.out HB.out)))
    (case side2 => exact HC0_0.out)
    (case side3 => exact xd ((Kd.C_below HR0_1.out HB.out)))
    (case side4 => exact HC0_1.out)
    rintro e w12 ⟨v177, v180, rfl, ho0, ho1, hb⟩
    refine ⟨_, rfl, ?_⟩
    have HO178 := Aside0.mk (Kd.R_lower ho0 (below_size (xs HB.out)))
    have HO181 := Aside0.mk (Kd.R_lower ho1 (below_size (xs HB.out)))
    replace BK173 := xk BK173 hb
    replace BK174 := xk BK174 hb
    replace HB := xp HB hb
    (try clear hb)
    (try clear hb2)
    (try clear hk)
    (try clear hi)
    (try clear ho0)
    (try clear ho1)
    refine hK.out _ _ ⟨(blk_cell BK173.out 0).trans rfl, (blk_cell BK173.out 1).trans rfl⟩ (fun hHeld => ?_)
    clear hK K
    refine norm_ (a' := ?_) ?_ ?_
    rotate_left
    ·show Act.put _ (some 13) _ = _
     simp only [Act.put, List.setIfInBounds_toArray, List.set_cons_zero, List.set_cons_succ, i64_w, i32_w]
     rfl
    refine two_ (i := 3) (j := 4) (Ni := some 15) (Nj := some 5) #[true, true, true, true, false, false, false] #[true, true, true, false, true, false, false] rfl rfl rfl rfl (by kernel_rfl) (by decide) (by decide) (fun K hK => ?_) (fun K hK => ?_)
    ·skip
     refine goes_ Try.func74 (by kernel_rfl) rfl #[.agg #[.slice A0_0 l0_0.length c0_0, .slice A0_1 l0_1.length c0_1]] (by rfl) rfl rfl (by (try simp only [List.map_toArray, List.map_cons, List.map_nil]); first | done | rfl | (simp only [List.length_drop, List.length_take]; rfl)) ?_
     with_reducible refine (impl_Vessels_divisor.calls k _ _ l0_0 _ _ l0_1 t182 _ ?side1 ?side2 ?side3 ?side4 A5.out).mono ?_
     (case side1 => exact xd ((Kd.C_below HR0_0.out HB.out)))
     (case side2 => exact HC0_0.out)
     (case side3 => exact xd ((Kd.C_below HR0_1.out HB.out)))
     (case side4 => exact HC0_1.out)
     rintro e w13 ⟨rfl, hb⟩
     refine ⟨_, rfl, ?_⟩
     replace HO178 := xq HO178 hb
     replace HO181 := xq HO181 hb
     replace BK173 := xk BK173 hb
     replace BK174 := xk BK174 hb
     replace HB := xp HB hb
     (try clear hb)
     (try clear hb2)
     (try clear hk)
     (try clear hi)
     refine hK.out _ _ ⟨(blk_cell BK173.out 0).trans rfl, (blk_cell BK173.out 1).trans rfl⟩ (fun hHeld => ?_)
     clear hK K
     refine norm_ (a' := ?_) ?_ ?_
     rotate_left
     ·show Act.put _ (some 15) _ = _
      simp only [Act.put, List.setIfInBounds_toArray, List.set_cons_zero, List.set_cons_succ, i64_w, i32_w]
      rfl
     refine one_ (i := 4) (N := some 5) #[true, true, true, true, true, false, false] rfl rfl (by kernel_rfl) (by decide) (fun K hK => ?_)
     refine box_step ?hg (N := 5) ?hd (cs := #[.slice none 0 0, .slice none 0 0]) (t := 26) ?hr ?_; (case hd => rfl); (case hg => rfl); (case hr => first | (go_simp; done) | (go_simp; rfl))
     intro gb183 hg w14 hbox hb
     replace HO178 := xq HO178 hb
     replace HO181 := xq HO181 hb
     have BK183 := Aside0.mk (hbox)
     have GW183 := xg HB hg
     have GE183 := xg HB hg
     replace HB := xp HB hb
     have NB173_183 := xl BK173 hg
     have NB183_173 := xh BK173 hg
     replace BK173 := xk BK173 hb
     have NB174_183 := xl BK174 hg
     have NB183_174 := xh BK174 hg
     replace BK174 := xk BK174 hb
     clear hb hbox hg
     refine hK.out _ _ ⟨(blk_cell BK173.out 0).trans rfl, (blk_cell BK173.out 1).trans rfl⟩ (fun hHeld => ?_)
     clear hK K
     refine norm_ (a' := ?_) ?_ ?_
     rotate_left
     ·show Act.put _ (some 5) _ = _
      simp only [Act.put, List.setIfInBounds_toArray, List.set_cons_zero, List.set_cons_succ, i64_w, i32_w]
      rfl
     exact norm_ (by simp only [putAll, Act.put, List.setIfInBounds_toArray, List.set_cons_zero, List.set_cons_succ]) (hCont (v177, v180, gb183) _ ⟨hHeld, (xr HO178.out), (xr HO181.out), (xb BK173.out), (xb BK174.out), (xb BK183.out), GW183.out, GE183.out, NB173_183.out, NB183_173.out, NB174_183.out, NB183_174.out, (xs HB.out)⟩)
    ·skip
     refine box_step ?hg (N := 5) ?hd (cs := #[.slice none 0 0, .slice none 0 0]) (t := 26) ?hr ?_; (case hd => rfl); (case hg => rfl); (case hr => first | (go_simp; done) | (go_simp; rfl))
     intro gb183 hg w13 hbox hb
     replace HO178 := xq HO178 hb
     replace HO181 := xq HO181 hb
     have BK183 := Aside0.mk (hbox)
     have GW183 := xg HB hg
     have GE183 := xg HB hg
     replace HB := xp HB hb
     have NB173_183 := xl BK173 hg
     have NB183_173 := xh BK173 hg
     replace BK173 := xk BK173 hb
     have NB174_183 := xl BK174 hg
     have NB183_174 := xh BK174 hg
     replace BK174 := xk BK174 hb
     clear hb hbox hg
     refine hK.out _ _ ⟨(blk_cell BK173.out 0).trans rfl, (blk_cell BK173.out 1).trans rfl⟩ (fun hHeld => ?_)
     clear hK K
     refine norm_ (a' := ?_) ?_ ?_
     rotate_left
     ·show Act.put _ (some 5) _ = _
      simp only [Act.put, List.setIfInBounds_toArray, List.set_cons_zero, List.set_cons_succ, i64_w, i32_w]
      rfl
     refine one_ (i := 3) (N := some 15) #[true, true, true, true, true, false, false] rfl rfl (by kernel_rfl) (by decide) (fun K hK => ?_)
     refine goes_ Try.func74 (by kernel_rfl) rfl #[.agg #[.slice A0_0 l0_0.length c0_0, .slice A0_1 l0_1.length c0_1]] (by rfl) rfl rfl (by (try simp only [List.map_toArray, List.map_cons, List.map_nil]); first | done | rfl | (simp only [List.length_drop, List.length_take]; rfl)) ?_
     with_reducible refine (impl_Vessels_divisor.calls k _ _ l0_0 _ _ l0_1 t182 _ ?side1 ?side2 ?side3 ?side4 A5.out).mono ?_
     (case side1 => exact xd ((Kd.C_below HR0_0.out HB.out)))
     (case side2 => exact HC0_0.out)
     (case side3 => exact xd ((Kd.C_below HR0_1.out HB.out)))
     (case side4 => exact HC0_1.out)
     rintro e w14 ⟨rfl, hb⟩
     refine ⟨_, rfl, ?_⟩
     replace HO178 := xq HO178 hb
     replace HO181 := xq HO181 hb
     replace BK173 := xk BK173 hb
     replace BK174 := xk BK174 hb
     replace BK183 := xk BK183 hb
     replace HB := xp HB hb
     (try clear hb)
     (try clear hb2)
     (try clear hk)
     (try clear hi)
     refine hK.out _ _ ⟨(blk_cell BK173.out 0).trans rfl, (blk_cell BK173.out 1).trans rfl⟩ (fun hHeld => ?_)
     clear hK K
     refine norm_ (a' := ?_) ?_ ?_
     rotate_left
     ·show Act.put _ (some 15) _ = _
      simp only [Act.put, List.setIfInBounds_toArray, List.set_cons_zero, List.set_cons_succ, i64_w, i32_w]
      rfl
     exact norm_ (by simp only [putAll, Act.put, List.setIfInBounds_toArray, List.set_cons_zero, List.set_cons_succ]) (hCont (v177, v180, gb183) _ ⟨hHeld, (xr HO178.out), (xr HO181.out), (xb BK173.out), (xb BK174.out), (xb BK183.out), GW183.out, GE183.out, NB173_183.out, NB183_173.out, NB174_183.out, NB183_174.out, (xs HB.out)⟩)
   ·skip
    refine box_step ?hg (N := 5) ?hd (cs := #[.slice none 0 0, .slice none 0 0]) (t := 26) ?hr ?_; (case hd => rfl); (case hg => rfl); (case hr => first | (go_simp; done) | (go_simp; rfl))
    intro gb183 hg w12 hbox hb
    have BK183 := Aside0.mk (hbox)
    have GW183 := xg HB hg
    have GE183 := xg HB hg
    replace HB := xp HB hb
    have NB173_183 := xl BK173 hg
    have NB183_173 := xh BK173 hg
    replace BK173 := xk BK173 hb
    have NB174_183 := xl BK174 hg
    have NB183_174 := xh BK174 hg
    replace BK174 := xk BK174 hb
    clear hb hbox hg
    refine hK.out _ _ ⟨(blk_cell BK173.out 0).trans rfl, (blk_cell BK173.out 1).trans rfl⟩ (fun hHeld => ?_)
    clear hK K
    refine norm_ (a' := ?_) ?_ ?_
    rotate_left
    ·show Act.put _ (some 5) _ = _
     simp only [Act.put, List.setIfInBounds_toArray, List.set_cons_zero, List.set_cons_succ, i64_w, i32_w]
     rfl
    refine one_ (i := 1) (N := some 13) #[true, true, true, false, true, false, false] rfl rfl (by kernel_rfl) (by decide) (fun K hK => ?_)
    refine goes_ Try.func65 (by kernel_rfl) rfl #[.agg #[.slice A0_0 l0_0.length c0_0, .slice A0_1 l0_1.length c0_1]] (by rfl) rfl rfl (by (try simp only [List.map_toArray, List.map_cons, List.map_nil]); first | done | rfl | (simp only [List.length_drop, List.length_take]; rfl)) ?_
    with_reducible refine (impl_Vessels_own.calls _ _ l0_0 _ _ l0_1 t176 t179 _ ?side1 ?side2 ?side3 ?side4 A4.out).mono ?_
    (case side1 => exact xd ((Kd.C_below HR0_0.out HB.out)))
    (case side2 => exact HC0_0.out)
    (case side3 => exact xd ((Kd.C_below HR0_1.out HB.out)))
    (case side4 => exact HC0_1.out)
    rintro e w13 ⟨v177, v180, rfl, ho0, ho1, hb⟩
    refine ⟨_, rfl, ?_⟩
    have HO178 := Aside0.mk (Kd.R_lower ho0 (below_size (xs HB.out)))
    have HO181 := Aside0.mk (Kd.R_lower ho1 (below_size (xs HB.out)))
    replace BK173 := xk BK173 hb
    replace BK174 := xk BK174 hb
    replace BK183 := xk BK183 hb
    replace HB := xp HB hb
    (try clear hb)
    (try clear hb2)
    (try clear hk)
    (try clear hi)
    (try clear ho0)
    (try clear ho1)
    refine hK.out _ _ ⟨(blk_cell BK173.out 0).trans rfl, (blk_cell BK173.out 1).trans rfl⟩ (fun hHeld => ?_)
    clear hK K
    refine norm_ (a' := ?_) ?_ ?_
    rotate_left
    ·show Act.put _ (some 13) _ = _
     simp only [Act.put, List.setIfInBounds_toArray, List.set_cons_zero, List.set_cons_succ, i64_w, i32_w]
     rfl
    refine one_ (i := 3) (N := some 15) #[true, true, true, true, true, false, false] rfl rfl (by kernel_rfl) (by decide) (fun K hK => ?_)
    refine goes_ Try.func74 (by kernel_rfl) rfl #[.agg #[.slice A0_0 l0_0.length c0_0, .slice A0_1 l0_1.length c0_1]] (by rfl) rfl rfl (by (try simp only [List.map_toArray, List.map_cons, List.map_nil]); first | done | rfl | (simp only [List.length_drop, List.length_take]; rfl)) ?_
    with_reducible refine (impl_Vessels_divisor.calls k _ _ l0_0 _ _ l0_1 t182 _ ?side1 ?side2 ?side3 ?side4 A5.out).mono ?_
    (case side1 => exact xd ((Kd.C_below HR0_0.out HB.out)))
    (case side2 => exact HC0_0.out)
    (case side3 => exact xd ((Kd.C_below HR0_1.out HB.out)))
    (case side4 => exact HC0_1.out)
    rintro e w14 ⟨rfl, hb⟩
    refine ⟨_, rfl, ?_⟩
    replace HO178 := xq HO178 hb
    replace HO181 := xq HO181 hb
    replace BK173 := xk BK173 hb
    replace BK174 := xk BK174 hb
    replace BK183 := xk BK183 hb
    replace HB := xp HB hb
    (try clear hb)
    (try clear hb2)
    (try clear hk)
    (try clear hi)
    refine hK.out _ _ ⟨(blk_cell BK173.out 0).trans rfl, (blk_cell BK173.out 1).trans rfl⟩ (fun hHeld => ?_)
    clear hK K
    refine norm_ (a' := ?_) ?_ ?_
    rotate_left
    ·show Act.put _ (some 15) _ = _
     simp only [Act.put, List.setIfInBounds_toArray, List.set_cons_zero, List.set_cons_succ, i64_w, i32_w]
     rfl
    exact norm_ (by simp only [putAll, Act.put, List.setIfInBounds_toArray, List.set_cons_zero, List.set_cons_succ]) (hCont (v177, v180, gb183) _ ⟨hHeld, (xr HO178.out), (xr HO181.out), (xb BK173.out), (xb BK174.out), (xb BK183.out), GW183.out, GE183.out, NB173_183.out, NB183_173.out, NB174_183.out, NB183_174.out, (xs HB.out)⟩)
  rintro ⟨v177, v180, gb183⟩ w15 ⟨hS_, h0_, h1_, h2_, h3_, h4_, h5_, h6_, h7_, h8_, h9_, h10_, h11_⟩
  have n0_ : Aside0 (Kd.R (Kd.int .i64) 3 w15 w.heap.size (fun k_ => nV k_ v180) v177 t176) := ⟨h0_⟩
  have n1_ : Aside0 (Kd.R (Kd.int .i64) 3 w15 w.heap.size (fun k_ => nV k_ v177) v180 t179) := ⟨h1_⟩
  have n2_ : Aside0 (w15.heap[gb173]? = some (.cells #[.slice A0_0 l0_0.length c0_0, .slice A0_1 l0_1.length c0_1] 26 (0, 0))) := ⟨h2_⟩
  have n3_ : Aside0 (w15.heap[gb174]? = some (.cells #[.slice none 0 0, .slice none 0 0] 26 (0, 0))) := ⟨h3_⟩
  have n4_ : Aside0 (w15.heap[gb183]? = some (.cells #[.slice none 0 0, .slice none 0 0] 26 (0, 0))) := ⟨h4_⟩
  have n5_ : Aside0 (w.heap.size ≤ gb183) := ⟨h5_⟩
  have n6_ : Aside0 (w.heap.size ≤ gb183) := ⟨h6_⟩
  have n7_ : Aside0 (gb173 ≠ gb183) := ⟨h7_⟩
  have n8_ : Aside0 (gb183 ≠ gb173) := ⟨h8_⟩
  have n9_ : Aside0 (gb174 ≠ gb183) := ⟨h9_⟩
  have n10_ : Aside0 (gb183 ≠ gb174) := ⟨h10_⟩
  have n11_ : Aside0 (Below w.heap.size w w15) := ⟨h11_⟩
  clear BK173
  clear BK174
  clear HB
  clear h0_ h1_ h2_ h3_ h4_ h5_ h6_ h7_ h8_ h9_ h10_ h11_
  have HO178 := n0_
  have HO181 := n1_
  have BK173 := n2_
  have BK174 := n3_
  have BK183 := n4_
  have GW183 := n5_
  have GE183 := n6_
  have NB173_183 := n7_
  have NB183_173 := n8_
  have NB174_183 := n9_
  have NB183_174 := n10_
  have HB := n11_
  clear n0_ n1_ n2_ n3_ n4_ n5_ n6_ n7_ n8_ n9_ n10_ n11_
  have hHeld : w15.cell? ⟨gb173, 0, none⟩ = some (.slice A0_0 l0_0.length c0_0) ∧ w15.cell? ⟨gb173, 1, none⟩ = some (.slice A0_1 l0_1.length c0_1) := hS_
  obtain ⟨Ao16, co16, eo16⟩ := Kd.R_slice HO178.out
  (first | subst eo16 | (injection eo16 with f1_ f2_ f3_; have f4_ := f1_.symm; have f5_ := f3_.symm; clear f1_ f2_ f3_; subst f4_; subst f5_))
  obtain ⟨Ao18, co18, eo18⟩ := Kd.R_slice HO181.out
  (first | subst eo18 | (injection eo18 with f1_ f2_ f3_; have f4_ := f1_.symm; have f5_ := f3_.symm; clear f1_ f2_ f3_; subst f4_; subst f5_))
  refine norm_ (a' := ?_) ?_ ?_
  rotate_left
  ·simp only [putAll, Act.put, List.setIfInBounds_toArray, List.set_cons_zero, List.set_cons_succ]
   rfl
  refine one_ (i := 5) (N := none) #[true, true, true, true, true, true, false] rfl rfl (by kernel_rfl) (by decide) (fun K hK => ?_)
  have hs17 : w15.cell? ⟨gb183, 0, none⟩ = some (.slice none 0 0) := (blk_cell BK183.out 0).trans rfl
  have hfs17 := blk_frozen BK183.out 0
  have hns17_0 := NB173_183.out
  have hns17_1 := NB174_183.out
  have hms17_0 := NB183_173.out
  have hms17_1 := NB183_174.out
  have hs19 : w15.cell? ⟨gb183, 1, none⟩ = some (.slice none 0 0) := (blk_cell BK183.out 1).trans rfl
  have hfs19 := blk_frozen BK183.out 1
  have hns19_0 := NB173_183.out
  have hns19_1 := NB174_183.out
  have hms19_0 := NB183_173.out
  have hms19_1 := NB183_174.out
  refine skip_ (w1 := ?_) (by rfl) rfl ?_ ?_
  rotate_left
  ·go_simp
   rfl
  refine hK.out _ _ ⟨((cell_far (p := ⟨gb183, _, none⟩) NB173_183.out _).trans (((cell_far (p := ⟨gb183, _, none⟩) NB173_183.out _).trans (hHeld.1)))), ((cell_far (p := ⟨gb183, _, none⟩) NB173_183.out _).trans (((cell_far (p := ⟨gb183, _, none⟩) NB173_183.out _).trans (hHeld.2))))⟩ (fun hHeld => ?_)
  clear hK K
  refine pure_ (i := 6) (N := some 6) (v := ?_) (a' := ?_) #[true, true, true, true, true, true, true] rfl rfl (by kernel_rfl) (fun _ _ _ h => h) (Or.inl ⟨by rfl, ?_⟩) ?_ ?_
  rotate_left
  ·intro w'
   go_simp
   with_reducible rfl
  rotate_left
  ·simp only [Act.put, List.setIfInBounds_toArray, List.set_cons_zero, List.set_cons_succ, i64_w, i32_w]
   rfl
  refine done_ (by kernel_rfl) ?_
  have hnb20 := NB183_173.out
  have hnc20 := NB173_183.out
  have hnb21 := NB183_174.out
  have hnc21 := NB174_183.out
  have hcz22_0 : w15.cell? ⟨gb183, 0, none⟩ = some (.slice none 0 0) := (blk_cell BK183.out 0).trans rfl
  have hcz22_1 : w15.cell? ⟨gb183, 1, none⟩ = some (.slice none 0 0) := (blk_cell BK183.out 1).trans rfl
  have hfz22_0 := blk_frozen BK183.out 0
  have hfz22_1 := blk_frozen BK183.out 1
  try go_wp2
  go_loopg [19] k (fun kq v19 w' => ∃ (x19_1 : Int) (x184000_1 : List Int) (x184001_1 : List Int) (u184000 : Value) (u184001 : Value), v19 = .int .i64 x19_1 ∧ Aside0 (impl_LeastScale.l0 kq t182 (t176.length : Int) x19_1 x184000_1 x184001_1 = some (r1, r2, r3, r4)) ∧ Aside0 (kq ≤ k) ∧ Aside0 (Kd.R (Kd.int .i64) 3 w' w.heap.size (fun k_ => nV k_ u184001) u184000 x184000_1) ∧ Aside0 (Kd.R (Kd.int .i64) 3 w' w.heap.size (fun k_ => nV k_ u184000) u184001 x184001_1) ∧ Aside0 (w'.heap[gb173]? = some (.cells #[(.slice A0_0 l0_0.length c0_0), (.slice A0_1 l0_1.length c0_1)] 26 (0, 0))) ∧ Aside0 (w'.heap[gb174]? = some (.cells #[(.slice none 0 0), (.slice none 0 0)] 26 (0, 0))) ∧ Aside0 (w'.heap[gb183]? = some (.cells #[u184000, u184001] 26 (0, 0))) ∧ Aside0 (Below w.heap.size w w'))
  case atStart => exact ⟨(0), (t176), (t179), (.slice Ao16 t176.length co16), (.slice Ao18 t179.length co18), (by first | rfl | (simp; done) | (simp [*]; done)), H', ⟨Nat.le_refl _⟩, ⟨by (with_reducible repeat (first | apply Kd.R_alloc | apply Kd.R_drewN | apply Kd.R_drew)); exact Kd.R_mono (Kd.R_far (p := ⟨gb183, 1, none⟩) (Kd.R_far (p := ⟨gb183, 0, none⟩) (Kd.R_types HO178.out BK183.out (by decide)) (fun _ hk => hk.2) (.slice Ao16 t176.length co16)) (fun _ hk => hk.2) (.slice Ao18 t179.length co18)) (fun _ hk => hk.1)⟩, ⟨by (with_reducible repeat (first | apply Kd.R_alloc | apply Kd.R_drewN | apply Kd.R_drew)); exact Kd.R_mono (Kd.R_far (p := ⟨gb183, 1, none⟩) (Kd.R_far (p := ⟨gb183, 0, none⟩) (Kd.R_types HO181.out BK183.out (by decide)) (fun _ hk => hk.2) (.slice Ao16 t176.length co16)) (fun _ hk => hk.2) (.slice Ao18 t179.length co18)) (fun _ hk => hk.1)⟩, ⟨xff NB173_183.out NB173_183.out BK173.out⟩, ⟨xff NB174_183.out NB174_183.out BK174.out⟩, ⟨by (with_reducible repeat (first | refine blk_drewN ?_ _ | refine blk_drew ?_ | refine blk_alloc ?_ _)); refine blk_put (cs := #[.slice Ao16 t176.length co16, .slice none 0 0]) ?_ 1 _ rfl; (with_reducible repeat (first | refine blk_drewN ?_ _ | refine blk_drew ?_ | refine blk_alloc ?_ _)); refine blk_put (cs := #[.slice none 0 0, .slice none 0 0]) ?_ 0 _ rfl; (with_reducible repeat (first | refine blk_drewN ?_ _ | refine blk_drew ?_ | refine blk_alloc ?_ _)); exact BK183.out⟩, ⟨xs HB.out⟩⟩
  case round =>
   clear H'
   try clear c2
   try clear p2
   try clear c3
   try clear c6
   try clear c7
   try clear c8
   try clear c20
   try clear c21
   try clear hcz22_0
   try clear hcz22_1
   try clear hcz9_0
   try clear hcz9_1
   try clear hfz22_0
   try clear hfz22_1
   try clear hfz9_0
   try clear hfz9_1
   obtain ⟨x19_1, x184000_1, x184001_1, u184000, u184001, rfl, HA, HK1, HO_184000, HO_184001, BK173, BK174, BK183, HB⟩ := hrel
   cases gk with
   | zero => exact absurd HA.out (by simp [impl_LeastScale.l0])
   | succ k1 =>
    have H := HA.out
    clear HA
    simp only [impl_LeastScale.l0] at H
    by_cases c23 : x19_1 < (t176.length : Int)
    ·rw [if_pos c23] at H
     have c23b0 : decide (x19_1 < (t176.length : Int)) = true := decide_eq_true c23
     clear c23
     by_cases c24 : 0 ≤ x19_1
     ·rw [if_pos c24] at H
      have c24b0 : decide (0 ≤ x19_1) = true := decide_eq_true c24
      clear c24
      by_cases c25 : x19_1 < (x184000_1.length : Int)
      ·rw [if_pos c25] at H
       have c25b0 : decide (x19_1 < (x184000_1.length : Int)) = true := decide_eq_true c25
       clear c25
       by_cases c26 : t182 = 0
       ·rw [if_pos c26] at H
        exact absurd H (by simp)
       ·rw [if_neg c26] at H
        have c26b0 : (t182 == 0) = false := beq_eq_false_iff_ne.mpr c26
        have c26b1 : (t182 != 0) = true := bne_iff_ne.mpr c26
        obtain ⟨y185, hy185⟩ : ∃ y_ : List Int, y_ = (x184000_1.set (x19_1 : Int).toNat (wrap64 (Int.tdiv (rd x184000_1 x19_1) t182))) := ⟨_, rfl⟩
        replace H : (if x19_1 < (x184001_1.length : Int) then (impl_LeastScale.l0 k1 t182 (t176.length : Int) (wrap64 (x19_1 + 1)) y185 (x184001_1.set (x19_1 : Int).toNat (wrap64 (Int.tdiv (rd x184001_1 x19_1) t182)))) else (none)) = some (r1, r2, r3, r4) := by first | (rw [hy185]; with_reducible exact H) | (have H2_ := (Option.bind_some _ _).symm.trans H; rw [hy185]; with_reducible exact H2_) | (have H2_ := (Option.bind_some _ _).symm.trans H; with_reducible exact H2_) | with_reducible exact H | (rw [hy185]; exact H) | exact H
        have Ny185 := Aside0.mk hy185
        clear hy185
        by_cases c28 : x19_1 < (x184001_1.length : Int)
        ·rw [if_pos c28] at H
         have c28b0 : decide (x19_1 < (x184001_1.length : Int)) = true := decide_eq_true c28
         clear c28
         obtain ⟨y187, hy187⟩ : ∃ y_ : List Int, y_ = (x184001_1.set (x19_1 : Int).toNat (wrap64 (Int.tdiv (rd x184001_1 x19_1) t182))) := ⟨_, rfl⟩
         replace H : (impl_LeastScale.l0 k1 t182 (t176.length : Int) (wrap64 (x19_1 + 1)) y185 y187) = some (r1, r2, r3, r4) := by first | (rw [hy187]; with_reducible exact H) | (have H2_ := (Option.bind_some _ _).symm.trans H; rw [hy187]; with_reducible exact H2_) | (have H2_ := (Option.bind_some _ _).symm.trans H; with_reducible exact H2_) | with_reducible exact H | (rw [hy187]; exact H) | exact H
         have Ny187 := Aside0.mk hy187
         clear hy187
         have H' := Aside0.mk H
         clear H
         have hnb30 := NB183_173.out
         have hnc30 := NB173_183.out
         have hnb31 := NB183_174.out
         have hnc31 := NB174_183.out
         have hcz32_0 : wr.cell? ⟨gb183, 0, none⟩ = some (u184000) := (blk_cell BK183.out 0).trans rfl
         have hcz32_1 : wr.cell? ⟨gb183, 1, none⟩ = some (u184001) := (blk_cell BK183.out 1).trans rfl
         have hfz32_0 := blk_frozen BK183.out 0
         have hfz32_1 := blk_frozen BK183.out 1
         obtain ⟨Ao33, co33, eo33⟩ := Kd.R_slice HO_184000.out
         subst eo33
         have p184 : 0 ≤ (x19_1 : Int) := of_decide_eq_true (by first | (with_reducible assumption) | assumption)
         have q184 : x19_1 < (x184000_1.length : Int) := of_decide_eq_true (by first | (with_reducible assumption) | assumption)
         obtain ⟨ad184, e184, hx184_0⟩ := Kd.at_int (Kd.R_reads' HO_184000.out).2.2 x19_1 p184 q184
         cases e184
         replace p184 := eq_true p184
         replace q184 := eq_true q184
         have p27 : 0 ≤ (x19_1 : Int) := of_decide_eq_true (by first | (with_reducible assumption) | assumption)
         have q27 : (x19_1 : Int) < ((x184000_1.length : Int) : Int) := of_decide_eq_true (by first | (with_reducible assumption) | assumption)
         obtain ⟨go27, co27, eo27, gb27, gl27, cl27, HG27⟩ := Kd.R_form HO_184000.out (by omega)
         (first | cases eo27 | (injection eo27 with ea_ en_ ec_; (first | subst ea_ | (injection ea_ with ea_; subst ea_)); subst ec_; clear en_))
         have GB27 := Aside0.mk gb27
         have GG27 := Aside0.mk HG27
         clear gb27 gl27 HG27
         (first | simp only [add_plain] at hx184_0 | skip)
         obtain ⟨hx27_0, hf27_0⟩ := Kd.R_celln 0 HO_184000.out (x19_1 : Int) p27 q27
         replace p27 := eq_true p27
         replace q27 := eq_true q27
         have HP34 := Kd.R_putg HO_184000.out (x19_1 : Int) (wrap64 (Int.tdiv (rd x184000_1 x19_1) t182))
         go_wp2_with (first | ((with_reducible refine gate_store (t := 3) (p := 29) rfl ?_); refine store_event (t := 3) (p := 29) (v := ?vo_w35) (w1 := (wr.setCell ⟨go27, (x19_1 : Int).toNat, none⟩ (.int .i64 (wrap64 (Int.tdiv (rd x184000_1 x19_1) t182))))) ?hg ?ho ?hn ?hr ?_; (case ho => rfl); (case hg => rfl); (case hn => rfl); (case hr => first | (go_simp; done) | (go_simp; rfl)); intro w35 hw; have hg : wr.grownBy w35 (some go27) := (by rw [hw]; exact HP34.2); have hp_ : Kd.R (Kd.int .i64) 3 w35 w.heap.size (fun k_ => nV k_ u184001) (.slice (some ⟨go27, 0, none⟩) x184000_1.length co33) y185 := (by rw [hw, Ny185.out]; exact HP34.1); clear HP34; replace HO_184001 := Aside0.mk (Kd.R_after (v := (.slice (some ⟨go27, 0, none⟩) x184000_1.length co33)) (v1 := (.slice (some ⟨go27, 0, none⟩) x184000_1.length co33)) (ok := (fun _ => True)) (xm HO_184001 (fun _ hk => ⟨trivial, hk⟩)) hg (.inl rfl)); replace BK173 := Aside0.mk (blk_grown (g := gb173) (o := .cells #[.slice A0_0 l0_0.length c0_0, .slice A0_1 l0_1.length c0_1] 26 (0, 0)) (xb BK173.out) hg (Kd.R_ne HO_184000.out BK173.out (by decide))); replace BK174 := Aside0.mk (blk_grown (g := gb174) (o := .cells #[.slice none 0 0, .slice none 0 0] 26 (0, 0)) (xb BK174.out) hg (Kd.R_ne HO_184000.out BK174.out (by decide))); replace BK183 := Aside0.mk (blk_grown (g := gb183) (o := .cells #[.slice (some ⟨go27, 0, none⟩) x184000_1.length co33, u184001] 26 (0, 0)) (xb BK183.out) hg (Kd.R_ne HO_184000.out BK183.out (by decide))); replace HO_184000 := Aside0.mk (hp_); replace HB := Aside0.mk ((by rw [hw]; exact below_set (HB.out) GB27.out : Below w.heap.size w w35)); clear hg hw hp_; have hcz36_0 : w35.cell? ⟨gb183, 0, none⟩ = some (.slice (some ⟨go27, 0, none⟩) x184000_1.length co33) := (blk_cell BK183.out 0).trans rfl; have hcz36_1 : w35.cell? ⟨gb183, 1, none⟩ = some (u184001) := (blk_cell BK183.out 1).trans rfl; have hfz36_0 := blk_frozen BK183.out 0; have hfz36_1 := blk_frozen BK183.out 1; obtain ⟨Ao37, co37, eo37⟩ := Kd.R_slice HO_184001.out; subst eo37; have p186 : 0 ≤ (x19_1 : Int) := of_decide_eq_true (by first | (with_reducible assumption) | assumption); have q186 : x19_1 < (x184001_1.length : Int) := of_decide_eq_true (by first | (with_reducible assumption) | assumption); obtain ⟨ad186, e186, hx186_0⟩ := Kd.at_int (Kd.R_reads' HO_184001.out).2.2 x19_1 p186 q186; cases e186; replace p186 := eq_true p186; replace q186 := eq_true q186; have p29 : 0 ≤ (x19_1 : Int) := of_decide_eq_true (by first | (with_reducible assumption) | assumption); have q29 : (x19_1 : Int) < ((x184001_1.length : Int) : Int) := of_decide_eq_true (by first | (with_reducible assumption) | assumption); obtain ⟨go29, co29, eo29, gb29, gl29, cl29, HG29⟩ := Kd.R_form HO_184001.out (by omega); (first | cases eo29 | (injection eo29 with ea_ en_ ec_; (first | subst ea_ | (injection ea_ with ea_; subst ea_)); subst ec_; clear en_)); have GB29 := Aside0.mk gb29; have GG29 := Aside0.mk HG29; clear gb29 gl29 HG29; (first | simp only [add_plain] at hx186_0 | skip); obtain ⟨hx29_0, hf29_0⟩ := Kd.R_celln 0 HO_184001.out (x19_1 : Int) p29 q29; replace p29 := eq_true p29; replace q29 := eq_true q29; have n_ := Aside0.mk (Kd.R_mono (ok' := (fun k_ => some k_ ≠ (.slice (some ⟨go27, 0, none⟩) x184000_1.length co33 : Value).ownBlock)) HO_184001.out (fun k_ hk => hk.2)); clear HO_184001; have HO_184001 := n_; clear n_; obtain ⟨hy38_, hz38_⟩ := Kd.R_celln 0 HO_184001.out (x19_1 : Int) (of_decide_eq_true (by first | (with_reducible assumption) | assumption)) (of_decide_eq_true (by first | (with_reducible assumption) | assumption)); have HP38 := Kd.R_putg HO_184001.out (x19_1 : Int) (wrap64 (Int.tdiv (rd x184001_1 x19_1) t182))) | ((with_reducible refine gate_store (t := 3) (p := 37) rfl ?_); refine store_event (t := 3) (p := 37) (v := ?vo_w39) (w1 := (w35.setCell ⟨go29, (x19_1 : Int).toNat, none⟩ (.int .i64 (wrap64 (Int.tdiv (rd x184001_1 x19_1) t182))))) ?hg ?ho ?hn ?hr ?_; (case ho => rfl); (case hg => rfl); (case hn => rfl); (case hr => first | (go_simp; done) | (go_simp; rfl)); intro w39 hw; have hg : w35.grownBy w39 (some go29) := (by rw [hw]; exact HP38.2); have hp_ : Kd.R (Kd.int .i64) 3 w39 w.heap.size (fun k_ => some k_ ≠ (.slice (some ⟨go27, 0, none⟩) x184000_1.length co33 : Value).ownBlock) (.slice (some ⟨go29, 0, none⟩) x184001_1.length co37) y187 := (by rw [hw, Ny187.out]; exact HP38.1); clear HP38; replace HO_184000 := Aside0.mk (Kd.R_after (v := (.slice (some ⟨go29, 0, none⟩) x184001_1.length co37)) (v1 := (.slice (some ⟨go29, 0, none⟩) x184001_1.length co37)) (ok := (fun _ => True)) (xm HO_184000 (fun _ hk => ⟨trivial, hk⟩)) hg (.inl rfl)); replace BK173 := Aside0.mk (blk_grown (g := gb173) (o := .cells #[.slice A0_0 l0_0.length c0_0, .slice A0_1 l0_1.length c0_1] 26 (0, 0)) (xb BK173.out) hg (Kd.R_ne HO_184001.out BK173.out (by decide))); replace BK174 := Aside0.mk (blk_grown (g := gb174) (o := .cells #[.slice none 0 0, .slice none 0 0] 26 (0, 0)) (xb BK174.out) hg (Kd.R_ne HO_184001.out BK174.out (by decide))); replace BK183 := Aside0.mk (blk_grown (g := gb183) (o := .cells #[.slice (some ⟨go27, 0, none⟩) x184000_1.length co33, .slice (some ⟨go29, 0, none⟩) x184001_1.length co37] 26 (0, 0)) (xb BK183.out) hg (Kd.R_ne HO_184001.out BK183.out (by decide))); replace HO_184001 := Aside0.mk (hp_); replace HB := Aside0.mk ((by rw [hw]; exact below_set (HB.out) GB29.out : Below w.heap.size w w39)); clear hg hw hp_))
         go_roundg k1
         case measure => have := HK1.out; omega
         case rel => exact ⟨(wrap64 (x19_1 + 1)), (y185), (y187), (.slice (some ⟨go27, 0, none⟩) x184000_1.length co33), (.slice (some ⟨go29, 0, none⟩) x184001_1.length co37), (by first | rfl | (simp; done) | (simp [*]; done)), H', ⟨by have := HK1.out; omega⟩, ⟨xm HO_184000 (fun _ hk => hk.2)⟩, ⟨xr HO_184001.out⟩, ⟨xb BK173.out⟩, ⟨xb BK174.out⟩, ⟨xb BK183.out⟩, ⟨xs HB.out⟩⟩
        ·rw [if_neg c28] at H
         exact absurd H (by simp)
      ·rw [if_neg c25] at H
       exact absurd H (by simp)
     ·rw [if_neg c24] at H
      exact absurd H (by simp)
    ·rw [if_neg c23] at H
     have c23b0 : decide (x19_1 < (t176.length : Int)) = false := decide_eq_false c23
     clear c23
     simp only [Option.some.injEq, Prod.mk.injEq] at H
     obtain ⟨rfl, rfl, rfl, rfl⟩ := H
     have hnb40 := NB183_173.out
     have hnc40 := NB173_183.out
     have hnb41 := NB183_174.out
     have hnc41 := NB174_183.out
     have hcz42_0 : wr.cell? ⟨gb183, 0, none⟩ = some (u184000) := (blk_cell BK183.out 0).trans rfl
     have hcz42_1 : wr.cell? ⟨gb183, 1, none⟩ = some (u184001) := (blk_cell BK183.out 1).trans rfl
     have hfz42_0 := blk_frozen BK183.out 0
     have hfz42_1 := blk_frozen BK183.out 1
     obtain ⟨Ao43, co43, eo43⟩ := Kd.R_slice HO_184000.out
     subst eo43
     have hnb44 := NB174_173.out
     have hnc44 := NB173_174.out
     have hcz45_0 : wr.cell? ⟨gb174, 0, none⟩ = some (.slice none 0 0) := (blk_cell BK174.out 0).trans rfl
     have hcz45_1 : wr.cell? ⟨gb174, 1, none⟩ = some (.slice none 0 0) := (blk_cell BK174.out 1).trans rfl
     have hfz45_0 := blk_frozen BK174.out 0
     have hfz45_1 := blk_frozen BK174.out 1
     obtain ⟨Ao46, co46, eo46⟩ := Kd.R_slice HO_184001.out
     subst eo46
     go_wp2
     refine bodyPost_ret (results_ctt rfl _ _ gb174 26 #[.slice Ao43 x184000_1.length co43, .slice Ao46 x184001_1.length co46] (0, 0) _ rfl (by (with_reducible repeat (first | refine blk_drewN ?_ _ | refine blk_drew ?_ | refine blk_alloc ?_ _)); refine blk_put (cs := #[.slice Ao43 x184000_1.length co43, .slice none 0 0]) ?_ 1 _ rfl; (with_reducible repeat (first | refine blk_drewN ?_ _ | refine blk_drew ?_ | refine blk_alloc ?_ _)); refine blk_put (cs := #[.slice none 0 0, .slice none 0 0]) ?_ 0 _ rfl; (with_reducible repeat (first | refine blk_drewN ?_ _ | refine blk_drew ?_ | refine blk_alloc ?_ _)); exact BK174.out) Try.underlying26 rfl (by kernel_rfl)) rfl ?_
     exact ⟨_, _, by first | rfl | (simp [errW_none, errW_some] <;> rfl) | (simp [*, errW_none, errW_some] <;> rfl), by (with_reducible repeat (first | apply Kd.R_alloc | apply Kd.R_drewN | apply Kd.R_drew)); exact Kd.R_mono (Kd.R_far (p := ⟨gb174, 1, none⟩) (Kd.R_far (p := ⟨gb174, 0, none⟩) (Kd.R_types HO_184000.out BK174.out (by decide)) (fun _ hk => hk.2) (.slice Ao43 x184000_1.length co43)) (fun _ hk => hk.2) (.slice Ao46 x184001_1.length co46)) (fun _ hk => hk.1), by (with_reducible repeat (first | apply Kd.R_alloc | apply Kd.R_drewN | apply Kd.R_drew)); exact Kd.R_mono (Kd.R_far (p := ⟨gb174, 1, none⟩) (Kd.R_far (p := ⟨gb174, 0, none⟩) (Kd.R_types HO_184001.out BK174.out (by decide)) (fun _ hk => hk.2) (.slice Ao43 x184000_1.length co43)) (fun _ hk => hk.2) (.slice Ao46 x184001_1.length co46)) (fun _ hk => hk.1), by repeat (first | (with_reducible first | exact HB.out | apply below_alloc | apply pw_below_drewN | apply below_drew1 | refine below_set ?_ GE173.out | refine below_set ?_ GE174.out | refine below_set ?_ GE183.out) | exact HB.out)⟩
 ·replace c3 := Bool.eq_false_iff.mpr c3
  subst c3
  have H1 : (some (([] : List Int), ([] : List Int), 0, false)) = some (r1, r2, r3, r4) := by rw [if_neg (show ¬ (false = true) by decide)] at H; exact H
  clear H
  have H := H1
  clear H1
  simp only [Option.some.injEq, Prod.mk.injEq] at H
  obtain ⟨rfl, rfl, rfl, rfl⟩ := H
  go_enter Try.func25, Try.ntmps25
  go_wp2_with (first | ((with_reducible refine gate_dst (N := 1) rfl ?_); refine box_event ?hg (N := 1) ?hd (cs := #[.slice A0_0 l0_0.length c0_0, .slice A0_1 l0_1.length c0_1]) (t := 26) ?hr ?_; (case hd => rfl); (case hg => rfl); (case hr => first | (go_simp; done) | (go_simp; rfl)); intro gb173 hg w47 hbox hb; have BK173 := Aside0.mk (hbox); have GW173 := xg HB hg; have GE173 := xg HB hg; replace HB := xp HB hb; clear hb hbox hg) | ((with_reducible refine gate_dst (N := 2) rfl ?_); refine box_event ?hg (N := 2) ?hd (cs := #[.slice none 0 0, .slice none 0 0]) (t := 26) ?hr ?_; (case hd => rfl); (case hg => rfl); (case hr => first | (go_simp; done) | (go_simp; rfl)); intro gb174 hg w48 hbox hb; have BK174 := Aside0.mk (hbox); have GW174 := xg HB hg; have GE174 := xg HB hg; replace HB := xp HB hb; have NB173_174 := xl BK173 hg; have NB174_173 := xh BK173 hg; replace BK173 := xk BK173 hb; clear hb hbox hg; have hnb49 := NB173_174.out; have hnc49 := NB174_173.out; have hcz50_0 : w48.cell? ⟨gb173, 0, none⟩ = some (.slice A0_0 l0_0.length c0_0) := (blk_cell BK173.out 0).trans rfl; have hcz50_1 : w48.cell? ⟨gb173, 1, none⟩ = some (.slice A0_1 l0_1.length c0_1) := (blk_cell BK173.out 1).trans rfl; have hfz50_0 := blk_frozen BK173.out 0; have hfz50_1 := blk_frozen BK173.out 1) | ((with_reducible refine gate_callee (f := 71) rfl ?_); refine goesL_ (some 9) rfl rfl Try.func71 (by kernel_rfl) rfl #[.agg #[.slice A0_0 l0_0.length c0_0, .slice A0_1 l0_1.length c0_1]] rfl (by (try simp only [List.map_toArray, List.map_cons, List.map_nil]); first | done | rfl | (simp only [List.length_drop, List.length_take]; rfl)) ?_; (with_reducible refine (impl_AreVessels.calls k _ _ l0_0 _ _ l0_1 false _ ?side1 ?side2 ?side3 ?side4 A2.out).mono ?_); (case side1 => exact xd ((Kd.C_below HR0_0.out HB.out))); (case side2 => exact HC0_0.out); (case side3 => exact xd ((Kd.C_below HR0_1.out HB.out))); (case side4 => exact HC0_1.out); rintro e w51 ⟨rfl, hb⟩; refine ⟨_, rfl, ?_⟩; replace BK173 := xk BK173 hb; replace BK174 := xk BK174 hb; replace HB := xp HB hb; (try clear hb); (try clear hb2); (try clear hk); (try clear hi); have hcz52_0 : w51.cell? ⟨gb174, 0, none⟩ = some (.slice none 0 0) := (blk_cell BK174.out 0).trans rfl; have hcz52_1 : w51.cell? ⟨gb174, 1, none⟩ = some (.slice none 0 0) := (blk_cell BK174.out 1).trans rfl; have hfz52_0 := blk_frozen BK174.out 0; have hfz52_1 := blk_frozen BK174.out 1))
  refine bodyPost_ret (results_ctt rfl _ _ gb174 26 #[.slice none 0 0, .slice none 0 0] (0, 0) _ rfl (by (with_reducible repeat (first | refine blk_drewN ?_ _ | refine blk_drew ?_ | refine blk_alloc ?_ _)); refine blk_put (cs := #[.slice none 0 0, .slice none 0 0]) ?_ 1 _ rfl; (with_reducible repeat (first | refine blk_drewN ?_ _ | refine blk_drew ?_ | refine blk_alloc ?_ _)); refine blk_put (cs := #[.slice none 0 0, .slice none 0 0]) ?_ 0 _ rfl; (with_reducible repeat (first | refine blk_drewN ?_ _ | refine blk_drew ?_ | refine blk_alloc ?_ _)); exact BK174.out) Try.underlying26 rfl (by kernel_rfl)) rfl ?_
  exact ⟨_, _, by first | rfl | (simp [errW_none, errW_some] <;> rfl) | (simp [*, errW_none, errW_some] <;> rfl), by first | exact Kd.R_nil _ _ _ _ _ | exact Kd.N_nil _ _ _ _ _ | exact Kd.V_nil _ _ _ _ _ | exact Kd.Q_nil _ _ _ _ _ | exact Kd.S_nil _ _ _ _ _, by first | exact Kd.R_nil _ _ _ _ _ | exact Kd.N_nil _ _ _ _ _ | exact Kd.V_nil _ _ _ _ _ | exact Kd.Q_nil _ _ _ _ _ | exact Kd.S_nil _ _ _ _ _, by repeat (first | (with_reducible first | exact HB.out | apply below_alloc | apply pw_below_drewN | apply below_drew1 | refine below_set ?_ GE173.out | refine below_set ?_ GE174.out) | exact HB.out)⟩

end Go.Proofs.Ytobkbpoamicjgaa.PFnExactLeastScale

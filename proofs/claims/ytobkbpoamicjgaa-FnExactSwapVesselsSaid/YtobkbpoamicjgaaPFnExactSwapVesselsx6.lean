/- Lean functions of the Go functions that the law FnExactSwapVessels reaches, and the proofs that the calls come to what they say (made by program). -/
import Derived.Test.YtobkbpoamicjgaaAb
import Derived.Test.YtobkbpoamicjgaaPFnExactSwapVesselsx0
import Derived.Test.YtobkbpoamicjgaaPFnExactSwapVesselsx1
import Derived.Test.YtobkbpoamicjgaaPFnExactSwapVesselsx2
import Derived.Test.YtobkbpoamicjgaaPFnExactSwapVesselsx3
import Derived.Test.YtobkbpoamicjgaaPFnExactSwapVesselsx4
import Derived.Test.YtobkbpoamicjgaaPFnExactSwapVesselsx5
namespace Go.Proofs.Ytobkbpoamicjgaa.PFnExactSwapVessels
open Go.RowKit Go.Proofs.YtobkbpoamicjgaaW.PrintWords Go.Proofs.YtobkbpoamicjgaaW.PrintLast Go.Proofs.YtobkbpoamicjgaaW.PrintMore Go.Proofs.Ytobkbpoamicjgaa.Ab
attribute [local go_sem] max2_int min2_int max_two min_two max_three min_three max_four min_four   -- for this text's walks alone
set_option linter.unusedVariables false
set_option linter.unusedSimpArgs false

/-! ### laws_FnExactSwapVessels: function 3 -/
mutual
def laws_FnExactSwapVessels.j0 : Nat → Int → Int → Bool → Bool → Bool → List Int → List Int → List Int → List Int → List Int → List Int → List Int → List Int → Option (Bool)
  | 0, _, _, _, _, _, _, _, _, _, _, _, _, _ => none
  | k + 1, x1, x2, x9, x12, x48, x188000, x188001, x203000, x203001, x210000, x210001, x218000, x218001 => if x48 = true then (some false) else ((laws_toVessels.f k x188000 x188001).bind fun bt219 => ((laws_eqVessels.f k x210000 x210001 bt219.1 bt219.2).bind fun t225 => (if t225 = true then ((laws_markVessels.f k x210000 x210001 1).bind fun bt226 => (if bt226.1 < 0 then (laws_FnExactSwapVessels.j1 k x1 x2 x9 true x188000 x188001 x203000 x203001 x218000 x218001) else ((laws_eqVessels.f k x218000 x218001 x203000 x203001).bind fun t229 => (if t229 = true then (laws_FnExactSwapVessels.j1 k x1 x2 x9 (x12 != x9) x188000 x188001 x203000 x203001 x218000 x218001) else (laws_FnExactSwapVessels.j1 k x1 x2 x9 true x188000 x188001 x203000 x203001 x218000 x218001))))) else (some false))))
def laws_FnExactSwapVessels.j1 : Nat → Int → Int → Bool → Bool → List Int → List Int → List Int → List Int → List Int → List Int → Option (Bool)
  | 0, _, _, _, _, _, _, _, _, _, _ => none
  | k + 1, x1, x2, x9, x69, x188000, x188001, x203000, x203001, x218000, x218001 => if x69 = true then (some false) else ((laws_markVessels.f k x218000 x218001 1).bind fun bt230 => ((laws_heldVessels.f k bt230.2.1 bt230.2.2 1).bind fun t233 => (if t233 < 0 then (some false) else (if t233 = bt230.1 then ((laws_toVessels.f k x188000 x188001).bind fun bt234 => ((impl_SwapVessels.f k bt234.1 bt234.2 x1 x2).bind fun bt240 => ((laws_eqVessels.f k bt240.1 bt240.2.1 x203000 x203001).bind fun t248 => (if t248 = true then (laws_FnExactSwapVessels.j2 k bt230.1 (bt240.2.2 != x9) bt230.2.1 bt230.2.2) else (laws_FnExactSwapVessels.j2 k bt230.1 true bt230.2.1 bt230.2.2))))) else (some false)))))
def laws_FnExactSwapVessels.j2 : Nat → Int → Bool → List Int → List Int → Option (Bool)
  | 0, _, _, _, _ => none
  | k + 1, x14, x97, x218000, x218001 => if x97 = true then (some false) else ((laws_heldVessels.f k x218000 x218001 1).bind fun t249 => (if t249 < 0 then (some false) else (if t249 = x14 then (some true) else (some false))))
end
def laws_FnExactSwapVessels.f (k : Nat) (l0_0 : List Int) (l0_1 : List Int) (a1 : Int) (a2 : Int) : Option (Bool) := (laws_szVessels.f l0_0 l0_1 1048576).bind fun t188 => (if t188 < 0 then (some true) else ((laws_toVessels.f k l0_0 l0_1).bind fun bt189 => ((spec_SwapVessels.f k bt189.1 bt189.2 a1 a2).bind fun bt195 => ((laws_toVessels.f k l0_0 l0_1).bind fun bt203 => ((impl_SwapVessels.f k bt203.1 bt203.2 a1 a2).bind fun bt210 => ((laws_eqVessels.f k bt210.1 bt210.2.1 bt195.1 bt195.2.1).bind fun t218 => (if t218 = true then (laws_FnExactSwapVessels.j0 k a1 a2 bt195.2.2 bt210.2.2 (bt210.2.2 != bt195.2.2) l0_0 l0_1 bt195.1 bt195.2.1 bt203.1 bt203.2 bt210.1 bt210.2.1) else (laws_FnExactSwapVessels.j0 k a1 a2 bt195.2.2 bt210.2.2 true l0_0 l0_1 bt195.1 bt195.2.1 bt203.1 bt203.2 bt210.1 bt210.2.1))))))))
theorem laws_FnExactSwapVessels.mono_l : ∀ k, (∀ y0 y1 y2 y3 y4 y5 y6 y7 y8 y9 y10 y11 y12, LeO (laws_FnExactSwapVessels.j0 k y0 y1 y2 y3 y4 y5 y6 y7 y8 y9 y10 y11 y12) (laws_FnExactSwapVessels.j0 (k + 1) y0 y1 y2 y3 y4 y5 y6 y7 y8 y9 y10 y11 y12)) ∧ (∀ y0 y1 y2 y3 y4 y5 y6 y7 y8 y9, LeO (laws_FnExactSwapVessels.j1 k y0 y1 y2 y3 y4 y5 y6 y7 y8 y9) (laws_FnExactSwapVessels.j1 (k + 1) y0 y1 y2 y3 y4 y5 y6 y7 y8 y9)) ∧ (∀ y0 y1 y2 y3, LeO (laws_FnExactSwapVessels.j2 k y0 y1 y2 y3) (laws_FnExactSwapVessels.j2 (k + 1) y0 y1 y2 y3))
  | 0 => ⟨fun _ _ _ _ _ _ _ _ _ _ _ _ _ r h => by simp [laws_FnExactSwapVessels.j0] at h, fun _ _ _ _ _ _ _ _ _ _ r h => by simp [laws_FnExactSwapVessels.j1] at h, fun _ _ _ _ r h => by simp [laws_FnExactSwapVessels.j2] at h⟩
  | k + 1 => by
    obtain ⟨ih0, ih1, ih2⟩ := laws_FnExactSwapVessels.mono_l k
    refine ⟨?_, ?_, ?_⟩
    · intro y0 y1 y2 y3 y4 y5 y6 y7 y8 y9 y10 y11 y12
      unfold laws_FnExactSwapVessels.j0
      repeat' first
      | (with_reducible exact ih0 _ _ _ _ _ _ _ _ _ _ _ _ _)
      | (with_reducible exact ih1 _ _ _ _ _ _ _ _ _ _)
      | (with_reducible exact ih2 _ _ _ _)
      | (with_reducible exact impl_SwapVessels.mono _ _ _ _ _)
      | (with_reducible exact laws_eqVessels.mono _ _ _ _ _)
      | (with_reducible exact laws_heldVessels.mono _ _ _ _)
      | (with_reducible exact laws_markVessels.mono _ _ _ _)
      | (with_reducible exact laws_toVessels.mono _ _ _)
      | (with_reducible exact spec_SwapVessels.mono _ _ _ _ _)
      | (with_reducible exact LeO.refl _)
      | (with_reducible exact LeO.none _)
      | (with_reducible refine LeO.ite ?_ ?_)
      | (with_reducible refine LeO.bind ?_ (fun _ => ?_))
      | exact ih0 _ _ _ _ _ _ _ _ _ _ _ _ _
      | exact ih1 _ _ _ _ _ _ _ _ _ _
      | exact ih2 _ _ _ _
      | exact impl_SwapVessels.mono _ _ _ _ _
      | exact laws_eqVessels.mono _ _ _ _ _
      | exact laws_heldVessels.mono _ _ _ _
      | exact laws_markVessels.mono _ _ _ _
      | exact laws_toVessels.mono _ _ _
      | exact spec_SwapVessels.mono _ _ _ _ _
      | exact LeO.none _
      | refine LeO.ite ?_ ?_
      | refine LeO.bind ?_ (fun _ => ?_)
    · intro y0 y1 y2 y3 y4 y5 y6 y7 y8 y9
      unfold laws_FnExactSwapVessels.j1
      repeat' first
      | (with_reducible exact ih0 _ _ _ _ _ _ _ _ _ _ _ _ _)
      | (with_reducible exact ih1 _ _ _ _ _ _ _ _ _ _)
      | (with_reducible exact ih2 _ _ _ _)
      | (with_reducible exact impl_SwapVessels.mono _ _ _ _ _)
      | (with_reducible exact laws_eqVessels.mono _ _ _ _ _)
      | (with_reducible exact laws_heldVessels.mono _ _ _ _)
      | (with_reducible exact laws_markVessels.mono _ _ _ _)
      | (with_reducible exact laws_toVessels.mono _ _ _)
      | (with_reducible exact spec_SwapVessels.mono _ _ _ _ _)
      | (with_reducible exact LeO.refl _)
      | (with_reducible exact LeO.none _)
      | (with_reducible refine LeO.ite ?_ ?_)
      | (with_reducible refine LeO.bind ?_ (fun _ => ?_))
      | exact ih0 _ _ _ _ _ _ _ _ _ _ _ _ _
      | exact ih1 _ _ _ _ _ _ _ _ _ _
      | exact ih2 _ _ _ _
      | exact impl_SwapVessels.mono _ _ _ _ _
      | exact laws_eqVessels.mono _ _ _ _ _
      | exact laws_heldVessels.mono _ _ _ _
      | exact laws_markVessels.mono _ _ _ _
      | exact laws_toVessels.mono _ _ _
      | exact spec_SwapVessels.mono _ _ _ _ _
      | exact LeO.none _
      | refine LeO.ite ?_ ?_
      | refine LeO.bind ?_ (fun _ => ?_)
    · intro y0 y1 y2 y3
      unfold laws_FnExactSwapVessels.j2
      repeat' first
      | (with_reducible exact ih0 _ _ _ _ _ _ _ _ _ _ _ _ _)
      | (with_reducible exact ih1 _ _ _ _ _ _ _ _ _ _)
      | (with_reducible exact ih2 _ _ _ _)
      | (with_reducible exact impl_SwapVessels.mono _ _ _ _ _)
      | (with_reducible exact laws_eqVessels.mono _ _ _ _ _)
      | (with_reducible exact laws_heldVessels.mono _ _ _ _)
      | (with_reducible exact laws_markVessels.mono _ _ _ _)
      | (with_reducible exact laws_toVessels.mono _ _ _)
      | (with_reducible exact spec_SwapVessels.mono _ _ _ _ _)
      | (with_reducible exact LeO.refl _)
      | (with_reducible exact LeO.none _)
      | (with_reducible refine LeO.ite ?_ ?_)
      | (with_reducible refine LeO.bind ?_ (fun _ => ?_))
      | exact ih0 _ _ _ _ _ _ _ _ _ _ _ _ _
      | exact ih1 _ _ _ _ _ _ _ _ _ _
      | exact ih2 _ _ _ _
      | exact impl_SwapVessels.mono _ _ _ _ _
      | exact laws_eqVessels.mono _ _ _ _ _
      | exact laws_heldVessels.mono _ _ _ _
      | exact laws_markVessels.mono _ _ _ _
      | exact laws_toVessels.mono _ _ _
      | exact spec_SwapVessels.mono _ _ _ _ _
      | exact LeO.none _
      | refine LeO.ite ?_ ?_
      | refine LeO.bind ?_ (fun _ => ?_)
theorem laws_FnExactSwapVessels.mono : ∀ a0 a1 a2 a3 k, LeO (laws_FnExactSwapVessels.f k a0 a1 a2 a3) (laws_FnExactSwapVessels.f (k + 1) a0 a1 a2 a3) := by
  intro a0 a1 a2 a3 k
  obtain ⟨ih0, ih1, ih2⟩ := laws_FnExactSwapVessels.mono_l k
  unfold laws_FnExactSwapVessels.f
  repeat' first
      | (with_reducible exact ih0 _ _ _ _ _ _ _ _ _ _ _ _ _)
      | (with_reducible exact ih1 _ _ _ _ _ _ _ _ _ _)
      | (with_reducible exact ih2 _ _ _ _)
      | (with_reducible exact impl_SwapVessels.mono _ _ _ _ _)
      | (with_reducible exact laws_eqVessels.mono _ _ _ _ _)
      | (with_reducible exact laws_heldVessels.mono _ _ _ _)
      | (with_reducible exact laws_markVessels.mono _ _ _ _)
      | (with_reducible exact laws_toVessels.mono _ _ _)
      | (with_reducible exact spec_SwapVessels.mono _ _ _ _ _)
      | (with_reducible exact LeO.refl _)
      | (with_reducible exact LeO.none _)
      | (with_reducible refine LeO.ite ?_ ?_)
      | (with_reducible refine LeO.bind ?_ (fun _ => ?_))
      | exact ih0 _ _ _ _ _ _ _ _ _ _ _ _ _
      | exact ih1 _ _ _ _ _ _ _ _ _ _
      | exact ih2 _ _ _ _
      | exact impl_SwapVessels.mono _ _ _ _ _
      | exact laws_eqVessels.mono _ _ _ _ _
      | exact laws_heldVessels.mono _ _ _ _
      | exact laws_markVessels.mono _ _ _ _
      | exact laws_toVessels.mono _ _ _
      | exact spec_SwapVessels.mono _ _ _ _ _
      | exact LeO.none _
      | refine LeO.ite ?_ ?_
      | refine LeO.bind ?_ (fun _ => ?_)
set_option maxHeartbeats 8000000 in
set_option maxRecDepth 100000 in
theorem laws_FnExactSwapVessels.calls (k : Nat) (A0_0 : Option Addr) (c0_0 : Nat) (l0_0 : List Int) (A0_1 : Option Addr) (c0_1 : Nat) (l0_1 : List Int) (a1 : Int) (a2 : Int) (w : World) (hr0_0 : Kd.C (Kd.int .i64) w A0_0 l0_0.length l0_0) (hc0_0 : l0_0.length ≤ c0_0) (hr0_1 : Kd.C (Kd.int .i64) w A0_1 l0_1.length l0_1) (hc0_1 : l0_1.length ≤ c0_1) (h : laws_FnExactSwapVessels.f k l0_0 l0_1 a1 a2 = some true) :
    Calls Try.prog 3 #[.agg #[.slice A0_0 l0_0.length c0_0, .slice A0_1 l0_1.length c0_1], .int .i64 a1, .int .i64 a2] w fun e w' => e = .returned (.bool true) ∧ Below w.heap.size w w' := by
  have hu24 := Try.underlying24
  have hu26 := Try.underlying26
  have HR0_0 := Aside0.mk hr0_0
  have HC0_0 := Aside0.mk hc0_0
  clear hr0_0 hc0_0
  have HR0_1 := Aside0.mk hr0_1
  have HC0_1 := Aside0.mk hc0_1
  clear hr0_1 hc0_1
  have HB := Aside0.mk (Below.refl w.heap.size w)
  have H : ((laws_szVessels.f l0_0 l0_1 1048576).bind fun t188 => (if t188 < 0 then (some true) else ((laws_toVessels.f k l0_0 l0_1).bind fun bt189 => ((spec_SwapVessels.f k bt189.1 bt189.2 a1 a2).bind fun bt195 => ((laws_toVessels.f k l0_0 l0_1).bind fun bt203 => ((impl_SwapVessels.f k bt203.1 bt203.2 a1 a2).bind fun bt210 => ((laws_eqVessels.f k bt210.1 bt210.2.1 bt195.1 bt195.2.1).bind fun t218 => (if t218 = true then (laws_FnExactSwapVessels.j0 k a1 a2 bt195.2.2 bt210.2.2 (bt210.2.2 != bt195.2.2) l0_0 l0_1 bt195.1 bt195.2.1 bt203.1 bt203.2 bt210.1 bt210.2.1) else (laws_FnExactSwapVessels.j0 k a1 a2 bt195.2.2 bt210.2.2 true l0_0 l0_1 bt195.1 bt195.2.1 bt203.1 bt203.2 bt210.1 bt210.2.1))))))))) = some true := h
  clear h
  replace H := Option.bind_eq_some_iff.mp H
  obtain ⟨t188, A40, H⟩ := H
  replace H : (if t188 < 0 then (some true) else ((laws_toVessels.f k l0_0 l0_1).bind fun bt189 => ((spec_SwapVessels.f k bt189.1 bt189.2 a1 a2).bind fun bt195 => ((laws_toVessels.f k l0_0 l0_1).bind fun bt203 => ((impl_SwapVessels.f k bt203.1 bt203.2 a1 a2).bind fun bt210 => ((laws_eqVessels.f k bt210.1 bt210.2.1 bt195.1 bt195.2.1).bind fun t218 => (if t218 = true then (laws_FnExactSwapVessels.j0 k a1 a2 bt195.2.2 bt210.2.2 (bt210.2.2 != bt195.2.2) l0_0 l0_1 bt195.1 bt195.2.1 bt203.1 bt203.2 bt210.1 bt210.2.1) else (laws_FnExactSwapVessels.j0 k a1 a2 bt195.2.2 bt210.2.2 true l0_0 l0_1 bt195.1 bt195.2.1 bt203.1 bt203.2 bt210.1 bt210.2.1)))))))) = some true := H
  have A4 := Aside0.mk A40
  clear A40
  by_cases c5 : t188 < 0
  · rw [if_pos c5] at H
    have c5b0 : decide (t188 < 0) = true := decide_eq_true c5
    clear c5
    clear H
    go_enter Try.func3, Try.ntmps3
    go_wp2_with (first | ((with_reducible refine gate_dst (N := 3) rfl ?_); refine box_event ?hg (N := 3) ?hd (cs := #[.slice A0_0 l0_0.length c0_0, .slice A0_1 l0_1.length c0_1]) (t := 24) ?hr ?_; (case hd => rfl); (case hg => rfl); (case hr => first | (go_simp; done) | (go_simp; rfl)); intro gb187 hg w6 hbox hb; have n0_ := Aside0.mk (below_step (xs HB.out) hb); have n1_ := Aside0.mk (hbox); have n2_ := Aside0.mk ((by rw [hg]; exact (below_size (xs HB.out)) : w.heap.size ≤ gb187)); have n3_ := Aside0.mk ((by rw [hg]; exact (below_size (xs HB.out)) : w.heap.size ≤ gb187)); clear HB; have HB := n0_; have BK187 := n1_; have GW187 := n2_; have GE187 := n3_; clear n0_ n1_ n2_ n3_; clear hb hbox hg; have hcz7_0 : w6.cell? ⟨gb187, 0, none⟩ = some (.slice A0_0 l0_0.length c0_0) := (blk_cell BK187.out 0).trans rfl; have hcz7_1 : w6.cell? ⟨gb187, 1, none⟩ = some (.slice A0_1 l0_1.length c0_1) := (blk_cell BK187.out 1).trans rfl; have hfz7_0 := blk_frozen BK187.out 0; have hfz7_1 := blk_frozen BK187.out 1) | ((with_reducible refine gate_callee (f := 15) rfl ?_); refine goesL_ (some 20) rfl rfl Try.func15 (by kernel_rfl) rfl #[.agg #[.slice A0_0 l0_0.length c0_0, .slice A0_1 l0_1.length c0_1], .int .i64 1048576] rfl (by (try simp only [List.map_toArray, List.map_cons, List.map_nil]); first | done | rfl | (simp only [List.length_drop, List.length_take]; rfl)) ?_; (with_reducible refine (laws_szVessels.calls _ _ l0_0 _ _ l0_1 1048576 t188 _ ?side1 ?side2 ?side3 ?side4 A4.out).mono ?_); (case side1 => repeat (first | exact (Kd.C_below HR0_0.out HB.out) | (with_reducible refine Kd.C_alloc ?_ _) | (with_reducible refine Kd.C_drewN ?_ _) | (with_reducible refine Kd.C_drew ?_))); (case side2 => exact HC0_0.out); (case side3 => repeat (first | exact (Kd.C_below HR0_1.out HB.out) | (with_reducible refine Kd.C_alloc ?_ _) | (with_reducible refine Kd.C_drewN ?_ _) | (with_reducible refine Kd.C_drew ?_))); (case side4 => exact HC0_1.out); rintro e w8 ⟨rfl, hb⟩; refine ⟨_, rfl, ?_⟩; have n0_ := Aside0.mk (blk_below (g := gb187) (o := .cells #[.slice A0_0 l0_0.length c0_0, .slice A0_1 l0_1.length c0_1] 24 (0, 0)) (xb BK187.out) hb); have n1_ := Aside0.mk (below_step (xs HB.out) hb); clear BK187; clear HB; have BK187 := n0_; have HB := n1_; clear n0_ n1_; (try clear hb); (try clear hb2); (try clear hk); (try clear hi)))
    go_ret
    exact ⟨by first | rfl | (simp [errW_none, errW_some] <;> rfl) | (simp [*, errW_none, errW_some] <;> rfl), by repeat (first | (with_reducible first | exact HB.out | apply below_alloc | apply pw_below_drewN | apply below_drew1 | refine below_set ?_ GE187.out) | exact HB.out)⟩
  · rw [if_neg c5] at H
    have c5b0 : decide (t188 < 0) = false := decide_eq_false c5
    clear c5
    replace H := Option.bind_eq_some_iff.mp H
    obtain ⟨⟨t189, t192⟩, A90, H⟩ := H
    replace H : ((spec_SwapVessels.f k t189 t192 a1 a2).bind fun bt195 => ((laws_toVessels.f k l0_0 l0_1).bind fun bt203 => ((impl_SwapVessels.f k bt203.1 bt203.2 a1 a2).bind fun bt210 => ((laws_eqVessels.f k bt210.1 bt210.2.1 bt195.1 bt195.2.1).bind fun t218 => (if t218 = true then (laws_FnExactSwapVessels.j0 k a1 a2 bt195.2.2 bt210.2.2 (bt210.2.2 != bt195.2.2) l0_0 l0_1 bt195.1 bt195.2.1 bt203.1 bt203.2 bt210.1 bt210.2.1) else (laws_FnExactSwapVessels.j0 k a1 a2 bt195.2.2 bt210.2.2 true l0_0 l0_1 bt195.1 bt195.2.1 bt203.1 bt203.2 bt210.1 bt210.2.1)))))) = some true := H
    have A9 := Aside0.mk A90
    clear A90
    replace H := Option.bind_eq_some_iff.mp H
    obtain ⟨⟨t195, t198, t201⟩, A100, H⟩ := H
    replace H : ((laws_toVessels.f k l0_0 l0_1).bind fun bt203 => ((impl_SwapVessels.f k bt203.1 bt203.2 a1 a2).bind fun bt210 => ((laws_eqVessels.f k bt210.1 bt210.2.1 t195 t198).bind fun t218 => (if t218 = true then (laws_FnExactSwapVessels.j0 k a1 a2 t201 bt210.2.2 (bt210.2.2 != t201) l0_0 l0_1 t195 t198 bt203.1 bt203.2 bt210.1 bt210.2.1) else (laws_FnExactSwapVessels.j0 k a1 a2 t201 bt210.2.2 true l0_0 l0_1 t195 t198 bt203.1 bt203.2 bt210.1 bt210.2.1))))) = some true := H
    have A10 := Aside0.mk A100
    clear A100
    replace H := Option.bind_eq_some_iff.mp H
    obtain ⟨⟨t203, t206⟩, A110, H⟩ := H
    replace H : ((impl_SwapVessels.f k t203 t206 a1 a2).bind fun bt210 => ((laws_eqVessels.f k bt210.1 bt210.2.1 t195 t198).bind fun t218 => (if t218 = true then (laws_FnExactSwapVessels.j0 k a1 a2 t201 bt210.2.2 (bt210.2.2 != t201) l0_0 l0_1 t195 t198 t203 t206 bt210.1 bt210.2.1) else (laws_FnExactSwapVessels.j0 k a1 a2 t201 bt210.2.2 true l0_0 l0_1 t195 t198 t203 t206 bt210.1 bt210.2.1)))) = some true := H
    have A11 := Aside0.mk A110
    clear A110
    replace H := Option.bind_eq_some_iff.mp H
    obtain ⟨⟨t210, t213, t216⟩, A120, H⟩ := H
    replace H : ((laws_eqVessels.f k t210 t213 t195 t198).bind fun t218 => (if t218 = true then (laws_FnExactSwapVessels.j0 k a1 a2 t201 t216 (t216 != t201) l0_0 l0_1 t195 t198 t203 t206 t210 t213) else (laws_FnExactSwapVessels.j0 k a1 a2 t201 t216 true l0_0 l0_1 t195 t198 t203 t206 t210 t213))) = some true := H
    have A12 := Aside0.mk A120
    clear A120
    have HC13 := Aside0.mk H
    clear H
    go_enter Try.func3, Try.ntmps3
    go_upto_region 8 with (first | ((with_reducible refine gate_dst (N := 3) rfl ?_); refine box_event ?hg (N := 3) ?hd (cs := #[.slice A0_0 l0_0.length c0_0, .slice A0_1 l0_1.length c0_1]) (t := 24) ?hr ?_; (case hd => rfl); (case hg => rfl); (case hr => first | (go_simp; done) | (go_simp; rfl)); intro gb187 hg w14 hbox hb; have n0_ := Aside0.mk (below_step (xs HB.out) hb); have n1_ := Aside0.mk (hbox); have n2_ := Aside0.mk ((by rw [hg]; exact (below_size (xs HB.out)) : w.heap.size ≤ gb187)); have n3_ := Aside0.mk ((by rw [hg]; exact (below_size (xs HB.out)) : w.heap.size ≤ gb187)); clear HB; have HB := n0_; have BK187 := n1_; have GW187 := n2_; have GE187 := n3_; clear n0_ n1_ n2_ n3_; clear hb hbox hg; have hcz15_0 : w14.cell? ⟨gb187, 0, none⟩ = some (.slice A0_0 l0_0.length c0_0) := (blk_cell BK187.out 0).trans rfl; have hcz15_1 : w14.cell? ⟨gb187, 1, none⟩ = some (.slice A0_1 l0_1.length c0_1) := (blk_cell BK187.out 1).trans rfl; have hfz15_0 := blk_frozen BK187.out 0; have hfz15_1 := blk_frozen BK187.out 1) | ((with_reducible refine gate_callee (f := 15) rfl ?_); refine goesL_ (some 20) rfl rfl Try.func15 (by kernel_rfl) rfl #[.agg #[.slice A0_0 l0_0.length c0_0, .slice A0_1 l0_1.length c0_1], .int .i64 1048576] rfl (by (try simp only [List.map_toArray, List.map_cons, List.map_nil]); first | done | rfl | (simp only [List.length_drop, List.length_take]; rfl)) ?_; (with_reducible refine (laws_szVessels.calls _ _ l0_0 _ _ l0_1 1048576 t188 _ ?side1 ?side2 ?side3 ?side4 A4.out).mono ?_); (case side1 => repeat (first | exact (Kd.C_below HR0_0.out HB.out) | (with_reducible refine Kd.C_alloc ?_ _) | (with_reducible refine Kd.C_drewN ?_ _) | (with_reducible refine Kd.C_drew ?_))); (case side2 => exact HC0_0.out); (case side3 => repeat (first | exact (Kd.C_below HR0_1.out HB.out) | (with_reducible refine Kd.C_alloc ?_ _) | (with_reducible refine Kd.C_drewN ?_ _) | (with_reducible refine Kd.C_drew ?_))); (case side4 => exact HC0_1.out); rintro e w16 ⟨rfl, hb⟩; refine ⟨_, rfl, ?_⟩; have n0_ := Aside0.mk (blk_below (g := gb187) (o := .cells #[.slice A0_0 l0_0.length c0_0, .slice A0_1 l0_1.length c0_1] 24 (0, 0)) (xb BK187.out) hb); have n1_ := Aside0.mk (below_step (xs HB.out) hb); clear BK187; clear HB; have BK187 := n0_; have HB := n1_; clear n0_ n1_; (try clear hb); (try clear hb2); (try clear hk); (try clear hi); have hcz17_0 : w16.cell? ⟨gb187, 0, none⟩ = some (.slice A0_0 l0_0.length c0_0) := (blk_cell BK187.out 0).trans rfl; have hcz17_1 : w16.cell? ⟨gb187, 1, none⟩ = some (.slice A0_1 l0_1.length c0_1) := (blk_cell BK187.out 1).trans rfl; have hfz17_0 := blk_frozen BK187.out 0; have hfz17_1 := blk_frozen BK187.out 1) | ((with_reducible refine gate_callee (f := 17) rfl ?_); refine goesL_ (some 25) rfl rfl Try.func17 (by kernel_rfl) rfl #[.agg #[.slice A0_0 l0_0.length c0_0, .slice A0_1 l0_1.length c0_1]] rfl (by (try simp only [List.map_toArray, List.map_cons, List.map_nil]); first | done | rfl | (simp only [List.length_drop, List.length_take]; rfl)) ?_; (with_reducible refine (laws_toVessels.calls k _ _ l0_0 _ _ l0_1 t189 t192 _ ?side1 ?side2 ?side3 ?side4 A9.out).mono ?_); (case side1 => repeat (first | exact (Kd.C_below HR0_0.out HB.out) | (with_reducible refine Kd.C_alloc ?_ _) | (with_reducible refine Kd.C_drewN ?_ _) | (with_reducible refine Kd.C_drew ?_))); (case side2 => exact HC0_0.out); (case side3 => repeat (first | exact (Kd.C_below HR0_1.out HB.out) | (with_reducible refine Kd.C_alloc ?_ _) | (with_reducible refine Kd.C_drewN ?_ _) | (with_reducible refine Kd.C_drew ?_))); (case side4 => exact HC0_1.out); rintro e w18 ⟨v190, v193, rfl, ho0, ho1, hb⟩; refine ⟨_, rfl, ?_⟩; have n0_ := Aside0.mk (Kd.R_lower ho0 (below_size (xs HB.out))); have n1_ := Aside0.mk (Kd.R_lower ho1 (below_size (xs HB.out))); have n2_ := Aside0.mk (blk_below (g := gb187) (o := .cells #[.slice A0_0 l0_0.length c0_0, .slice A0_1 l0_1.length c0_1] 24 (0, 0)) (xb BK187.out) hb); have n3_ := Aside0.mk (below_step (xs HB.out) hb); clear BK187; clear HB; have HO191 := n0_; have HO194 := n1_; have BK187 := n2_; have HB := n3_; clear n0_ n1_ n2_ n3_; (try clear hb); (try clear hb2); (try clear hk); (try clear hi); (try clear ho0); (try clear ho1); obtain ⟨Ao19, co19, eo19⟩ := Kd.R_slice HO191.out; subst eo19; obtain ⟨Ao20, co20, eo20⟩ := Kd.R_slice HO194.out; subst eo20) | ((with_reducible refine gate_callee (f := 16) rfl ?_); refine goesL_ (some 28) rfl rfl Try.func16 (by kernel_rfl) rfl #[.agg #[.slice Ao19 t189.length co19, .slice Ao20 t192.length co20], .int .i64 a1, .int .i64 a2] rfl (by (try simp only [List.map_toArray, List.map_cons, List.map_nil]); first | done | rfl | (simp only [List.length_drop, List.length_take]; rfl)) ?_; (with_reducible refine (spec_SwapVessels.calls k _ _ t189 _ _ t192 a1 a2 t195 t198 t201 _ ?side1 ?side2 ?side3 ?side4 A10.out).mono ?_); (case side1 => repeat (first | exact (Kd.R_reads' HO191.out).2.2 | (with_reducible refine Kd.C_alloc ?_ _) | (with_reducible refine Kd.C_drewN ?_ _) | (with_reducible refine Kd.C_drew ?_))); (case side2 => exact (Kd.R_reads' HO191.out).2.1); (case side3 => repeat (first | exact (Kd.R_reads' HO194.out).2.2 | (with_reducible refine Kd.C_alloc ?_ _) | (with_reducible refine Kd.C_drewN ?_ _) | (with_reducible refine Kd.C_drew ?_))); (case side4 => exact (Kd.R_reads' HO194.out).2.1); rintro e w21 ⟨v196, v199, rfl, ho0, ho1, hb⟩; refine ⟨_, rfl, ?_⟩; have n0_ := Aside0.mk (Kd.R_mono (Kd.R_told (Kd.R_told (Kd.R_old (xr HO191.out) hb) (Kd.R_base ho0)) (Kd.R_base ho1)) (fun _ h_ => h_.1)); have n1_ := Aside0.mk (Kd.R_mono (Kd.R_told (Kd.R_told (Kd.R_old (xr HO194.out) hb) (Kd.R_base ho0)) (Kd.R_base ho1)) (fun _ h_ => h_.1)); have n2_ := Aside0.mk (Kd.R_lower (Kd.R_new' (Kd.R_new' ho0 (Kd.R_lt (xr HO191.out))) (Kd.R_lt (xr HO194.out))) (below_size (xs HB.out))); have n3_ := Aside0.mk (Kd.R_lower (Kd.R_new' (Kd.R_new' ho1 (Kd.R_lt (xr HO191.out))) (Kd.R_lt (xr HO194.out))) (below_size (xs HB.out))); have n4_ := Aside0.mk (blk_below (g := gb187) (o := .cells #[.slice A0_0 l0_0.length c0_0, .slice A0_1 l0_1.length c0_1] 24 (0, 0)) (xb BK187.out) hb); have n5_ := Aside0.mk (below_step (xs HB.out) hb); clear HO191; clear HO194; clear BK187; clear HB; have HO191 := n0_; have HO194 := n1_; have HO197 := n2_; have HO200 := n3_; have BK187 := n4_; have HB := n5_; clear n0_ n1_ n2_ n3_ n4_ n5_; (try clear hb); (try clear hb2); (try clear hk); (try clear hi); (try clear ho0); (try clear ho1)) | ((with_reducible refine gate_dst (N := 8) rfl ?_); refine box_event ?hg (N := 8) ?hd (cs := #[.slice none 0 0, .slice none 0 0]) (t := 26) ?hr ?_; (case hd => rfl); (case hg => rfl); (case hr => first | (go_simp; done) | (go_simp; rfl)); intro gb202 hg w22 hbox hb; have n0_ := Aside0.mk (Kd.R_below (xr HO191.out) hb); have n1_ := Aside0.mk (Kd.R_below (xr HO194.out) hb); have n2_ := Aside0.mk (Kd.R_below (xr HO197.out) hb); have n3_ := Aside0.mk (Kd.R_below (xr HO200.out) hb); have n4_ := Aside0.mk (blk_below (g := gb187) (o := .cells #[.slice A0_0 l0_0.length c0_0, .slice A0_1 l0_1.length c0_1] 24 (0, 0)) (xb BK187.out) hb); have n5_ := Aside0.mk (below_step (xs HB.out) hb); have n6_ := Aside0.mk (hbox); have n7_ := Aside0.mk ((by rw [hg]; exact (below_size (xs HB.out)) : w.heap.size ≤ gb202)); have n8_ := Aside0.mk ((by rw [hg]; exact (below_size (xs HB.out)) : w.heap.size ≤ gb202)); have n9_ := Aside0.mk ((by rw [hg]; exact Nat.ne_of_lt (blk_lt (g := gb187) (o := .cells #[.slice A0_0 l0_0.length c0_0, .slice A0_1 l0_1.length c0_1] 24 (0, 0)) (xb BK187.out)) : gb187 ≠ gb202)); have n10_ := Aside0.mk ((by rw [hg]; exact Nat.ne_of_gt (blk_lt (g := gb187) (o := .cells #[.slice A0_0 l0_0.length c0_0, .slice A0_1 l0_1.length c0_1] 24 (0, 0)) (xb BK187.out)) : gb202 ≠ gb187)); clear HO191; clear HO194; clear HO197; clear HO200; clear BK187; clear HB; have HO191 := n0_; have HO194 := n1_; have HO197 := n2_; have HO200 := n3_; have BK187 := n4_; have HB := n5_; have BK202 := n6_; have GW202 := n7_; have GE202 := n8_; have NB187_202 := n9_; have NB202_187 := n10_; clear n0_ n1_ n2_ n3_ n4_ n5_ n6_ n7_ n8_ n9_ n10_; clear hb hbox hg; obtain ⟨Ao23, co23, eo23⟩ := Kd.R_slice HO197.out; subst eo23; have hnb24 := NB202_187.out; have hnc24 := NB187_202.out; have hcz25_0 : w22.cell? ⟨gb202, 0, none⟩ = some (.slice none 0 0) := (blk_cell BK202.out 0).trans rfl; have hcz25_1 : w22.cell? ⟨gb202, 1, none⟩ = some (.slice none 0 0) := (blk_cell BK202.out 1).trans rfl; have hfz25_0 := blk_frozen BK202.out 0; have hfz25_1 := blk_frozen BK202.out 1; obtain ⟨Ao26, co26, eo26⟩ := Kd.R_slice HO200.out; subst eo26; have hcz27_0 : w22.cell? ⟨gb187, 0, none⟩ = some (.slice A0_0 l0_0.length c0_0) := (blk_cell BK187.out 0).trans rfl; have hcz27_1 : w22.cell? ⟨gb187, 1, none⟩ = some (.slice A0_1 l0_1.length c0_1) := (blk_cell BK187.out 1).trans rfl; have hfz27_0 := blk_frozen BK187.out 0; have hfz27_1 := blk_frozen BK187.out 1) | ((with_reducible refine gate_callee (f := 17) rfl ?_); refine goesL_ (some 32) rfl rfl Try.func17 (by kernel_rfl) rfl #[.agg #[.slice A0_0 l0_0.length c0_0, .slice A0_1 l0_1.length c0_1]] rfl (by (try simp only [List.map_toArray, List.map_cons, List.map_nil]); first | done | rfl | (simp only [List.length_drop, List.length_take]; rfl)) ?_; (with_reducible refine (laws_toVessels.calls k _ _ l0_0 _ _ l0_1 t203 t206 _ ?side1 ?side2 ?side3 ?side4 A11.out).mono ?_); (case side1 => exact Kd.C_below HR0_0.out (xs HB.out)); (case side2 => exact HC0_0.out); (case side3 => exact Kd.C_below HR0_1.out (xs HB.out)); (case side4 => exact HC0_1.out); rintro e w28 ⟨v204, v207, rfl, ho0, ho1, hb⟩; refine ⟨_, rfl, ?_⟩; have n0_ := Aside0.mk (Kd.R_mono (Kd.R_told (Kd.R_told (Kd.R_old (by (with_reducible repeat (first | apply Kd.R_alloc | apply Kd.R_drewN | apply Kd.R_drew)); exact (Kd.R_mono (Kd.R_far (p := ⟨gb202, 1, none⟩) (Kd.R_far (p := ⟨gb202, 0, none⟩) (Kd.R_types HO191.out BK202.out (by decide)) (fun _ hk => hk.2) (.slice Ao23 t195.length co23)) (fun _ hk => hk.2) (.slice Ao26 t198.length co26)) (fun _ h_ => h_.1))) hb) (Kd.R_base ho0)) (Kd.R_base ho1)) (fun _ h_ => h_.1)); have n1_ := Aside0.mk (Kd.R_mono (Kd.R_told (Kd.R_told (Kd.R_old (by (with_reducible repeat (first | apply Kd.R_alloc | apply Kd.R_drewN | apply Kd.R_drew)); exact (Kd.R_mono (Kd.R_far (p := ⟨gb202, 1, none⟩) (Kd.R_far (p := ⟨gb202, 0, none⟩) (Kd.R_types HO194.out BK202.out (by decide)) (fun _ hk => hk.2) (.slice Ao23 t195.length co23)) (fun _ hk => hk.2) (.slice Ao26 t198.length co26)) (fun _ h_ => h_.1))) hb) (Kd.R_base ho0)) (Kd.R_base ho1)) (fun _ h_ => h_.1)); have n2_ := Aside0.mk (Kd.R_mono (Kd.R_told (Kd.R_told (Kd.R_old (by (with_reducible repeat (first | apply Kd.R_alloc | apply Kd.R_drewN | apply Kd.R_drew)); exact (Kd.R_mono (Kd.R_far (p := ⟨gb202, 1, none⟩) (Kd.R_far (p := ⟨gb202, 0, none⟩) (Kd.R_types HO197.out BK202.out (by decide)) (fun _ hk => hk.2) (.slice Ao23 t195.length co23)) (fun _ hk => hk.2) (.slice Ao26 t198.length co26)) (fun _ h_ => h_.1))) hb) (Kd.R_base ho0)) (Kd.R_base ho1)) (fun _ h_ => h_.1)); have n3_ := Aside0.mk (Kd.R_mono (Kd.R_told (Kd.R_told (Kd.R_old (by (with_reducible repeat (first | apply Kd.R_alloc | apply Kd.R_drewN | apply Kd.R_drew)); exact (Kd.R_mono (Kd.R_far (p := ⟨gb202, 1, none⟩) (Kd.R_far (p := ⟨gb202, 0, none⟩) (Kd.R_types HO200.out BK202.out (by decide)) (fun _ hk => hk.2) (.slice Ao23 t195.length co23)) (fun _ hk => hk.2) (.slice Ao26 t198.length co26)) (fun _ h_ => h_.1))) hb) (Kd.R_base ho0)) (Kd.R_base ho1)) (fun _ h_ => h_.1)); have n4_ := Aside0.mk (Kd.R_lower (Kd.R_new' (Kd.R_new' (Kd.R_new' (Kd.R_new' ho0 (Kd.R_lt (by (with_reducible repeat (first | apply Kd.R_alloc | apply Kd.R_drewN | apply Kd.R_drew)); exact (Kd.R_mono (Kd.R_far (p := ⟨gb202, 1, none⟩) (Kd.R_far (p := ⟨gb202, 0, none⟩) (Kd.R_types HO191.out BK202.out (by decide)) (fun _ hk => hk.2) (.slice Ao23 t195.length co23)) (fun _ hk => hk.2) (.slice Ao26 t198.length co26)) (fun _ h_ => h_.1))))) (Kd.R_lt (by (with_reducible repeat (first | apply Kd.R_alloc | apply Kd.R_drewN | apply Kd.R_drew)); exact (Kd.R_mono (Kd.R_far (p := ⟨gb202, 1, none⟩) (Kd.R_far (p := ⟨gb202, 0, none⟩) (Kd.R_types HO194.out BK202.out (by decide)) (fun _ hk => hk.2) (.slice Ao23 t195.length co23)) (fun _ hk => hk.2) (.slice Ao26 t198.length co26)) (fun _ h_ => h_.1))))) (Kd.R_lt (by (with_reducible repeat (first | apply Kd.R_alloc | apply Kd.R_drewN | apply Kd.R_drew)); exact (Kd.R_mono (Kd.R_far (p := ⟨gb202, 1, none⟩) (Kd.R_far (p := ⟨gb202, 0, none⟩) (Kd.R_types HO197.out BK202.out (by decide)) (fun _ hk => hk.2) (.slice Ao23 t195.length co23)) (fun _ hk => hk.2) (.slice Ao26 t198.length co26)) (fun _ h_ => h_.1))))) (Kd.R_lt (by (with_reducible repeat (first | apply Kd.R_alloc | apply Kd.R_drewN | apply Kd.R_drew)); exact (Kd.R_mono (Kd.R_far (p := ⟨gb202, 1, none⟩) (Kd.R_far (p := ⟨gb202, 0, none⟩) (Kd.R_types HO200.out BK202.out (by decide)) (fun _ hk => hk.2) (.slice Ao23 t195.length co23)) (fun _ hk => hk.2) (.slice Ao26 t198.length co26)) (fun _ h_ => h_.1))))) (below_size (xs HB.out))); have n5_ := Aside0.mk (Kd.R_lower (Kd.R_new' (Kd.R_new' (Kd.R_new' (Kd.R_new' ho1 (Kd.R_lt (by (with_reducible repeat (first | apply Kd.R_alloc | apply Kd.R_drewN | apply Kd.R_drew)); exact (Kd.R_mono (Kd.R_far (p := ⟨gb202, 1, none⟩) (Kd.R_far (p := ⟨gb202, 0, none⟩) (Kd.R_types HO191.out BK202.out (by decide)) (fun _ hk => hk.2) (.slice Ao23 t195.length co23)) (fun _ hk => hk.2) (.slice Ao26 t198.length co26)) (fun _ h_ => h_.1))))) (Kd.R_lt (by (with_reducible repeat (first | apply Kd.R_alloc | apply Kd.R_drewN | apply Kd.R_drew)); exact (Kd.R_mono (Kd.R_far (p := ⟨gb202, 1, none⟩) (Kd.R_far (p := ⟨gb202, 0, none⟩) (Kd.R_types HO194.out BK202.out (by decide)) (fun _ hk => hk.2) (.slice Ao23 t195.length co23)) (fun _ hk => hk.2) (.slice Ao26 t198.length co26)) (fun _ h_ => h_.1))))) (Kd.R_lt (by (with_reducible repeat (first | apply Kd.R_alloc | apply Kd.R_drewN | apply Kd.R_drew)); exact (Kd.R_mono (Kd.R_far (p := ⟨gb202, 1, none⟩) (Kd.R_far (p := ⟨gb202, 0, none⟩) (Kd.R_types HO197.out BK202.out (by decide)) (fun _ hk => hk.2) (.slice Ao23 t195.length co23)) (fun _ hk => hk.2) (.slice Ao26 t198.length co26)) (fun _ h_ => h_.1))))) (Kd.R_lt (by (with_reducible repeat (first | apply Kd.R_alloc | apply Kd.R_drewN | apply Kd.R_drew)); exact (Kd.R_mono (Kd.R_far (p := ⟨gb202, 1, none⟩) (Kd.R_far (p := ⟨gb202, 0, none⟩) (Kd.R_types HO200.out BK202.out (by decide)) (fun _ hk => hk.2) (.slice Ao23 t195.length co23)) (fun _ hk => hk.2) (.slice Ao26 t198.length co26)) (fun _ h_ => h_.1))))) (below_size (xs HB.out))); have n6_ := Aside0.mk (blk_below (g := gb187) (o := .cells #[.slice A0_0 l0_0.length c0_0, .slice A0_1 l0_1.length c0_1] 24 (0, 0)) (xff NB187_202.out NB187_202.out BK187.out) hb); have n7_ := Aside0.mk (blk_below (g := gb202) (o := .cells #[.slice Ao23 t195.length co23, .slice Ao26 t198.length co26] 26 (0, 0)) (by (with_reducible repeat (first | refine blk_drewN ?_ _ | refine blk_drew ?_ | refine blk_alloc ?_ _)); refine blk_put (cs := #[.slice Ao23 t195.length co23, .slice none 0 0]) ?_ 1 _ rfl; (with_reducible repeat (first | refine blk_drewN ?_ _ | refine blk_drew ?_ | refine blk_alloc ?_ _)); refine blk_put (cs := #[.slice none 0 0, .slice none 0 0]) ?_ 0 _ rfl; (with_reducible repeat (first | refine blk_drewN ?_ _ | refine blk_drew ?_ | refine blk_alloc ?_ _)); exact BK202.out) hb); have n8_ := Aside0.mk (below_step (xs HB.out) hb); clear HO191; clear HO194; clear HO197; clear HO200; clear BK187; clear BK202; clear HB; have HO191 := n0_; have HO194 := n1_; have HO197 := n2_; have HO200 := n3_; have HO205 := n4_; have HO208 := n5_; have BK187 := n6_; have BK202 := n7_; have HB := n8_; clear n0_ n1_ n2_ n3_ n4_ n5_ n6_ n7_ n8_; (try clear hb); (try clear hb2); (try clear hk); (try clear hi); (try clear ho0); (try clear ho1)) | ((with_reducible refine gate_dst (N := 10) rfl ?_); refine box_event ?hg (N := 10) ?hd (cs := #[.slice none 0 0, .slice none 0 0]) (t := 26) ?hr ?_; (case hd => rfl); (case hg => rfl); (case hr => first | (go_simp; done) | (go_simp; rfl)); intro gb209 hg w29 hbox hb; have n0_ := Aside0.mk (Kd.R_below (xr HO191.out) hb); have n1_ := Aside0.mk (Kd.R_below (xr HO194.out) hb); have n2_ := Aside0.mk (Kd.R_below (xr HO197.out) hb); have n3_ := Aside0.mk (Kd.R_below (xr HO200.out) hb); have n4_ := Aside0.mk (Kd.R_below (xr HO205.out) hb); have n5_ := Aside0.mk (Kd.R_below (xr HO208.out) hb); have n6_ := Aside0.mk (blk_below (g := gb187) (o := .cells #[.slice A0_0 l0_0.length c0_0, .slice A0_1 l0_1.length c0_1] 24 (0, 0)) (xb BK187.out) hb); have n7_ := Aside0.mk (blk_below (g := gb202) (o := .cells #[.slice Ao23 t195.length co23, .slice Ao26 t198.length co26] 26 (0, 0)) (xb BK202.out) hb); have n8_ := Aside0.mk (below_step (xs HB.out) hb); have n9_ := Aside0.mk (hbox); have n10_ := Aside0.mk ((by rw [hg]; exact (below_size (xs HB.out)) : w.heap.size ≤ gb209)); have n11_ := Aside0.mk ((by rw [hg]; exact (below_size (xs HB.out)) : w.heap.size ≤ gb209)); have n12_ := Aside0.mk ((by rw [hg]; exact Nat.ne_of_lt (blk_lt (g := gb187) (o := .cells #[.slice A0_0 l0_0.length c0_0, .slice A0_1 l0_1.length c0_1] 24 (0, 0)) (xb BK187.out)) : gb187 ≠ gb209)); have n13_ := Aside0.mk ((by rw [hg]; exact Nat.ne_of_gt (blk_lt (g := gb187) (o := .cells #[.slice A0_0 l0_0.length c0_0, .slice A0_1 l0_1.length c0_1] 24 (0, 0)) (xb BK187.out)) : gb209 ≠ gb187)); have n14_ := Aside0.mk ((by rw [hg]; exact Nat.ne_of_lt (blk_lt (g := gb202) (o := .cells #[.slice Ao23 t195.length co23, .slice Ao26 t198.length co26] 26 (0, 0)) (xb BK202.out)) : gb202 ≠ gb209)); have n15_ := Aside0.mk ((by rw [hg]; exact Nat.ne_of_gt (blk_lt (g := gb202) (o := .cells #[.slice Ao23 t195.length co23, .slice Ao26 t198.length co26] 26 (0, 0)) (xb BK202.out)) : gb209 ≠ gb202)); clear HO191; clear HO194; clear HO197; clear HO200; clear HO205; clear HO208; clear BK187; clear BK202; clear HB; have HO191 := n0_; have HO194 := n1_; have HO197 := n2_; have HO200 := n3_; have HO205 := n4_; have HO208 := n5_; have BK187 := n6_; have BK202 := n7_; have HB := n8_; have BK209 := n9_; have GW209 := n10_; have GE209 := n11_; have NB187_209 := n12_; have NB209_187 := n13_; have NB202_209 := n14_; have NB209_202 := n15_; clear n0_ n1_ n2_ n3_ n4_ n5_ n6_ n7_ n8_ n9_ n10_ n11_ n12_ n13_ n14_ n15_; clear hb hbox hg; obtain ⟨Ao30, co30, eo30⟩ := Kd.R_slice HO205.out; subst eo30; have hnb31 := NB209_187.out; have hnc31 := NB187_209.out; have hnb32 := NB209_202.out; have hnc32 := NB202_209.out; have hcz33_0 : w29.cell? ⟨gb209, 0, none⟩ = some (.slice none 0 0) := (blk_cell BK209.out 0).trans rfl; have hcz33_1 : w29.cell? ⟨gb209, 1, none⟩ = some (.slice none 0 0) := (blk_cell BK209.out 1).trans rfl; have hfz33_0 := blk_frozen BK209.out 0; have hfz33_1 := blk_frozen BK209.out 1; obtain ⟨Ao34, co34, eo34⟩ := Kd.R_slice HO208.out; subst eo34) | ((with_reducible refine gate_callee (f := 18) rfl ?_); refine goesL_ (some 37) rfl rfl Try.func18 (by kernel_rfl) rfl #[.agg #[.slice Ao30 t203.length co30, .slice Ao34 t206.length co34], .int .i64 a1, .int .i64 a2] rfl (by (try simp only [List.map_toArray, List.map_cons, List.map_nil]); first | done | rfl | (simp only [List.length_drop, List.length_take]; rfl)) ?_; (with_reducible refine (impl_SwapVessels.calls k _ _ t203 _ _ t206 a1 a2 t210 t213 t216 _ ?side1 ?side2 ?side3 ?side4 A12.out).mono ?_); (case side1 => refine (Kd.R_reads' (e := 3) (base := w.heap.size) (ok := fun k_ => ((((some k_ ≠ (.slice Ao34 t206.length co34 : Value).ownBlock ∧ some k_ ≠ (.slice Ao19 t189.length co19 : Value).ownBlock) ∧ some k_ ≠ (.slice Ao20 t192.length co20 : Value).ownBlock) ∧ some k_ ≠ (.slice Ao23 t195.length co23 : Value).ownBlock) ∧ some k_ ≠ (.slice Ao26 t198.length co26 : Value).ownBlock)) (n := t203.length) (c := co30) ?_).2.2; exact (by (with_reducible repeat (first | apply Kd.R_alloc | apply Kd.R_drewN | apply Kd.R_drew)); exact (Kd.R_mono (Kd.R_far (p := ⟨gb209, 1, none⟩) (Kd.R_far (p := ⟨gb209, 0, none⟩) (Kd.R_types HO205.out BK209.out (by decide)) (fun _ hk => hk.2) (.slice Ao30 t203.length co30)) (fun _ hk => hk.2) (.slice Ao34 t206.length co34)) (fun _ h_ => h_.1)))); (case side2 => exact (Kd.R_reads' HO205.out).2.1); (case side3 => refine (Kd.R_reads' (e := 3) (base := w.heap.size) (ok := fun k_ => ((((some k_ ≠ (.slice Ao30 t203.length co30 : Value).ownBlock ∧ some k_ ≠ (.slice Ao19 t189.length co19 : Value).ownBlock) ∧ some k_ ≠ (.slice Ao20 t192.length co20 : Value).ownBlock) ∧ some k_ ≠ (.slice Ao23 t195.length co23 : Value).ownBlock) ∧ some k_ ≠ (.slice Ao26 t198.length co26 : Value).ownBlock)) (n := t206.length) (c := co34) ?_).2.2; exact (by (with_reducible repeat (first | apply Kd.R_alloc | apply Kd.R_drewN | apply Kd.R_drew)); exact (Kd.R_mono (Kd.R_far (p := ⟨gb209, 1, none⟩) (Kd.R_far (p := ⟨gb209, 0, none⟩) (Kd.R_types HO208.out BK209.out (by decide)) (fun _ hk => hk.2) (.slice Ao30 t203.length co30)) (fun _ hk => hk.2) (.slice Ao34 t206.length co34)) (fun _ h_ => h_.1)))); (case side4 => exact (Kd.R_reads' HO208.out).2.1); rintro e w35 ⟨v211, v214, rfl, ho0, ho1, hb⟩; refine ⟨_, rfl, ?_⟩; have n0_ := Aside0.mk (Kd.R_mono (Kd.R_told (Kd.R_told (Kd.R_old (by (with_reducible repeat (first | apply Kd.R_alloc | apply Kd.R_drewN | apply Kd.R_drew)); exact (Kd.R_mono (Kd.R_far (p := ⟨gb209, 1, none⟩) (Kd.R_far (p := ⟨gb209, 0, none⟩) (Kd.R_types HO191.out BK209.out (by decide)) (fun _ hk => hk.2) (.slice Ao30 t203.length co30)) (fun _ hk => hk.2) (.slice Ao34 t206.length co34)) (fun _ h_ => h_.1))) hb) (Kd.R_base ho0)) (Kd.R_base ho1)) (fun _ h_ => h_.1)); have n1_ := Aside0.mk (Kd.R_mono (Kd.R_told (Kd.R_told (Kd.R_old (by (with_reducible repeat (first | apply Kd.R_alloc | apply Kd.R_drewN | apply Kd.R_drew)); exact (Kd.R_mono (Kd.R_far (p := ⟨gb209, 1, none⟩) (Kd.R_far (p := ⟨gb209, 0, none⟩) (Kd.R_types HO194.out BK209.out (by decide)) (fun _ hk => hk.2) (.slice Ao30 t203.length co30)) (fun _ hk => hk.2) (.slice Ao34 t206.length co34)) (fun _ h_ => h_.1))) hb) (Kd.R_base ho0)) (Kd.R_base ho1)) (fun _ h_ => h_.1)); have n2_ := Aside0.mk (Kd.R_mono (Kd.R_told (Kd.R_told (Kd.R_old (by (with_reducible repeat (first | apply Kd.R_alloc | apply Kd.R_drewN | apply Kd.R_drew)); exact (Kd.R_mono (Kd.R_far (p := ⟨gb209, 1, none⟩) (Kd.R_far (p := ⟨gb209, 0, none⟩) (Kd.R_types HO197.out BK209.out (by decide)) (fun _ hk => hk.2) (.slice Ao30 t203.length co30)) (fun _ hk => hk.2) (.slice Ao34 t206.length co34)) (fun _ h_ => h_.1))) hb) (Kd.R_base ho0)) (Kd.R_base ho1)) (fun _ h_ => h_.1)); have n3_ := Aside0.mk (Kd.R_mono (Kd.R_told (Kd.R_told (Kd.R_old (by (with_reducible repeat (first | apply Kd.R_alloc | apply Kd.R_drewN | apply Kd.R_drew)); exact (Kd.R_mono (Kd.R_far (p := ⟨gb209, 1, none⟩) (Kd.R_far (p := ⟨gb209, 0, none⟩) (Kd.R_types HO200.out BK209.out (by decide)) (fun _ hk => hk.2) (.slice Ao30 t203.length co30)) (fun _ hk => hk.2) (.slice Ao34 t206.length co34)) (fun _ h_ => h_.1))) hb) (Kd.R_base ho0)) (Kd.R_base ho1)) (fun _ h_ => h_.1)); have n4_ := Aside0.mk (Kd.R_mono (Kd.R_told (Kd.R_told (Kd.R_old (by (with_reducible repeat (first | apply Kd.R_alloc | apply Kd.R_drewN | apply Kd.R_drew)); exact (Kd.R_mono (Kd.R_far (p := ⟨gb209, 1, none⟩) (Kd.R_far (p := ⟨gb209, 0, none⟩) (Kd.R_types HO205.out BK209.out (by decide)) (fun _ hk => hk.2) (.slice Ao30 t203.length co30)) (fun _ hk => hk.2) (.slice Ao34 t206.length co34)) (fun _ h_ => h_.1))) hb) (Kd.R_base ho0)) (Kd.R_base ho1)) (fun _ h_ => h_.1)); have n5_ := Aside0.mk (Kd.R_mono (Kd.R_told (Kd.R_told (Kd.R_old (by (with_reducible repeat (first | apply Kd.R_alloc | apply Kd.R_drewN | apply Kd.R_drew)); exact (Kd.R_mono (Kd.R_far (p := ⟨gb209, 1, none⟩) (Kd.R_far (p := ⟨gb209, 0, none⟩) (Kd.R_types HO208.out BK209.out (by decide)) (fun _ hk => hk.2) (.slice Ao30 t203.length co30)) (fun _ hk => hk.2) (.slice Ao34 t206.length co34)) (fun _ h_ => h_.1))) hb) (Kd.R_base ho0)) (Kd.R_base ho1)) (fun _ h_ => h_.1)); have n6_ := Aside0.mk (Kd.R_lower (Kd.R_new' (Kd.R_new' (Kd.R_new' (Kd.R_new' (Kd.R_new' (Kd.R_new' ho0 (Kd.R_lt (by (with_reducible repeat (first | apply Kd.R_alloc | apply Kd.R_drewN | apply Kd.R_drew)); exact (Kd.R_mono (Kd.R_far (p := ⟨gb209, 1, none⟩) (Kd.R_far (p := ⟨gb209, 0, none⟩) (Kd.R_types HO191.out BK209.out (by decide)) (fun _ hk => hk.2) (.slice Ao30 t203.length co30)) (fun _ hk => hk.2) (.slice Ao34 t206.length co34)) (fun _ h_ => h_.1))))) (Kd.R_lt (by (with_reducible repeat (first | apply Kd.R_alloc | apply Kd.R_drewN | apply Kd.R_drew)); exact (Kd.R_mono (Kd.R_far (p := ⟨gb209, 1, none⟩) (Kd.R_far (p := ⟨gb209, 0, none⟩) (Kd.R_types HO194.out BK209.out (by decide)) (fun _ hk => hk.2) (.slice Ao30 t203.length co30)) (fun _ hk => hk.2) (.slice Ao34 t206.length co34)) (fun _ h_ => h_.1))))) (Kd.R_lt (by (with_reducible repeat (first | apply Kd.R_alloc | apply Kd.R_drewN | apply Kd.R_drew)); exact (Kd.R_mono (Kd.R_far (p := ⟨gb209, 1, none⟩) (Kd.R_far (p := ⟨gb209, 0, none⟩) (Kd.R_types HO197.out BK209.out (by decide)) (fun _ hk => hk.2) (.slice Ao30 t203.length co30)) (fun _ hk => hk.2) (.slice Ao34 t206.length co34)) (fun _ h_ => h_.1))))) (Kd.R_lt (by (with_reducible repeat (first | apply Kd.R_alloc | apply Kd.R_drewN | apply Kd.R_drew)); exact (Kd.R_mono (Kd.R_far (p := ⟨gb209, 1, none⟩) (Kd.R_far (p := ⟨gb209, 0, none⟩) (Kd.R_types HO200.out BK209.out (by decide)) (fun _ hk => hk.2) (.slice Ao30 t203.length co30)) (fun _ hk => hk.2) (.slice Ao34 t206.length co34)) (fun _ h_ => h_.1))))) (Kd.R_lt (by (with_reducible repeat (first | apply Kd.R_alloc | apply Kd.R_drewN | apply Kd.R_drew)); exact (Kd.R_mono (Kd.R_far (p := ⟨gb209, 1, none⟩) (Kd.R_far (p := ⟨gb209, 0, none⟩) (Kd.R_types HO205.out BK209.out (by decide)) (fun _ hk => hk.2) (.slice Ao30 t203.length co30)) (fun _ hk => hk.2) (.slice Ao34 t206.length co34)) (fun _ h_ => h_.1))))) (Kd.R_lt (by (with_reducible repeat (first | apply Kd.R_alloc | apply Kd.R_drewN | apply Kd.R_drew)); exact (Kd.R_mono (Kd.R_far (p := ⟨gb209, 1, none⟩) (Kd.R_far (p := ⟨gb209, 0, none⟩) (Kd.R_types HO208.out BK209.out (by decide)) (fun _ hk => hk.2) (.slice Ao30 t203.length co30)) (fun _ hk => hk.2) (.slice Ao34 t206.length co34)) (fun _ h_ => h_.1))))) (below_size (xs HB.out))); have n7_ := Aside0.mk (Kd.R_lower (Kd.R_new' (Kd.R_new' (Kd.R_new' (Kd.R_new' (Kd.R_new' (Kd.R_new' ho1 (Kd.R_lt (by (with_reducible repeat (first | apply Kd.R_alloc | apply Kd.R_drewN | apply Kd.R_drew)); exact (Kd.R_mono (Kd.R_far (p := ⟨gb209, 1, none⟩) (Kd.R_far (p := ⟨gb209, 0, none⟩) (Kd.R_types HO191.out BK209.out (by decide)) (fun _ hk => hk.2) (.slice Ao30 t203.length co30)) (fun _ hk => hk.2) (.slice Ao34 t206.length co34)) (fun _ h_ => h_.1))))) (Kd.R_lt (by (with_reducible repeat (first | apply Kd.R_alloc | apply Kd.R_drewN | apply Kd.R_drew)); exact (Kd.R_mono (Kd.R_far (p := ⟨gb209, 1, none⟩) (Kd.R_far (p := ⟨gb209, 0, none⟩) (Kd.R_types HO194.out BK209.out (by decide)) (fun _ hk => hk.2) (.slice Ao30 t203.length co30)) (fun _ hk => hk.2) (.slice Ao34 t206.length co34)) (fun _ h_ => h_.1))))) (Kd.R_lt (by (with_reducible repeat (first | apply Kd.R_alloc | apply Kd.R_drewN | apply Kd.R_drew)); exact (Kd.R_mono (Kd.R_far (p := ⟨gb209, 1, none⟩) (Kd.R_far (p := ⟨gb209, 0, none⟩) (Kd.R_types HO197.out BK209.out (by decide)) (fun _ hk => hk.2) (.slice Ao30 t203.length co30)) (fun _ hk => hk.2) (.slice Ao34 t206.length co34)) (fun _ h_ => h_.1))))) (Kd.R_lt (by (with_reducible repeat (first | apply Kd.R_alloc | apply Kd.R_drewN | apply Kd.R_drew)); exact (Kd.R_mono (Kd.R_far (p := ⟨gb209, 1, none⟩) (Kd.R_far (p := ⟨gb209, 0, none⟩) (Kd.R_types HO200.out BK209.out (by decide)) (fun _ hk => hk.2) (.slice Ao30 t203.length co30)) (fun _ hk => hk.2) (.slice Ao34 t206.length co34)) (fun _ h_ => h_.1))))) (Kd.R_lt (by (with_reducible repeat (first | apply Kd.R_alloc | apply Kd.R_drewN | apply Kd.R_drew)); exact (Kd.R_mono (Kd.R_far (p := ⟨gb209, 1, none⟩) (Kd.R_far (p := ⟨gb209, 0, none⟩) (Kd.R_types HO205.out BK209.out (by decide)) (fun _ hk => hk.2) (.slice Ao30 t203.length co30)) (fun _ hk => hk.2) (.slice Ao34 t206.length co34)) (fun _ h_ => h_.1))))) (Kd.R_lt (by (with_reducible repeat (first | apply Kd.R_alloc | apply Kd.R_drewN | apply Kd.R_drew)); exact (Kd.R_mono (Kd.R_far (p := ⟨gb209, 1, none⟩) (Kd.R_far (p := ⟨gb209, 0, none⟩) (Kd.R_types HO208.out BK209.out (by decide)) (fun _ hk => hk.2) (.slice Ao30 t203.length co30)) (fun _ hk => hk.2) (.slice Ao34 t206.length co34)) (fun _ h_ => h_.1))))) (below_size (xs HB.out))); have n8_ := Aside0.mk (blk_below (g := gb187) (o := .cells #[.slice A0_0 l0_0.length c0_0, .slice A0_1 l0_1.length c0_1] 24 (0, 0)) (xff NB187_209.out NB187_209.out BK187.out) hb); have n9_ := Aside0.mk (blk_below (g := gb202) (o := .cells #[.slice Ao23 t195.length co23, .slice Ao26 t198.length co26] 26 (0, 0)) (xff NB202_209.out NB202_209.out BK202.out) hb); have n10_ := Aside0.mk (blk_below (g := gb209) (o := .cells #[.slice Ao30 t203.length co30, .slice Ao34 t206.length co34] 26 (0, 0)) (by (with_reducible repeat (first | refine blk_drewN ?_ _ | refine blk_drew ?_ | refine blk_alloc ?_ _)); refine blk_put (cs := #[.slice Ao30 t203.length co30, .slice none 0 0]) ?_ 1 _ rfl; (with_reducible repeat (first | refine blk_drewN ?_ _ | refine blk_drew ?_ | refine blk_alloc ?_ _)); refine blk_put (cs := #[.slice none 0 0, .slice none 0 0]) ?_ 0 _ rfl; (with_reducible repeat (first | refine blk_drewN ?_ _ | refine blk_drew ?_ | refine blk_alloc ?_ _)); exact BK209.out) hb); have n11_ := Aside0.mk (below_step (xs HB.out) hb); clear HO191; clear HO194; clear HO197; clear HO200; clear HO205; clear HO208; clear BK187; clear BK202; clear BK209; clear HB; have HO191 := n0_; have HO194 := n1_; have HO197 := n2_; have HO200 := n3_; have HO205 := n4_; have HO208 := n5_; have HO212 := n6_; have HO215 := n7_; have BK187 := n8_; have BK202 := n9_; have BK209 := n10_; have HB := n11_; clear n0_ n1_ n2_ n3_ n4_ n5_ n6_ n7_ n8_ n9_ n10_ n11_; (try clear hb); (try clear hb2); (try clear hk); (try clear hi); (try clear ho0); (try clear ho1)) | ((with_reducible refine gate_dst (N := 11) rfl ?_); refine box_event ?hg (N := 11) ?hd (cs := #[.slice none 0 0, .slice none 0 0]) (t := 26) ?hr ?_; (case hd => rfl); (case hg => rfl); (case hr => first | (go_simp; done) | (go_simp; rfl)); intro gb217 hg w36 hbox hb; have n0_ := Aside0.mk (Kd.R_below (xr HO191.out) hb); have n1_ := Aside0.mk (Kd.R_below (xr HO194.out) hb); have n2_ := Aside0.mk (Kd.R_below (xr HO197.out) hb); have n3_ := Aside0.mk (Kd.R_below (xr HO200.out) hb); have n4_ := Aside0.mk (Kd.R_below (xr HO205.out) hb); have n5_ := Aside0.mk (Kd.R_below (xr HO208.out) hb); have n6_ := Aside0.mk (Kd.R_below (xr HO212.out) hb); have n7_ := Aside0.mk (Kd.R_below (xr HO215.out) hb); have n8_ := Aside0.mk (blk_below (g := gb187) (o := .cells #[.slice A0_0 l0_0.length c0_0, .slice A0_1 l0_1.length c0_1] 24 (0, 0)) (xb BK187.out) hb); have n9_ := Aside0.mk (blk_below (g := gb202) (o := .cells #[.slice Ao23 t195.length co23, .slice Ao26 t198.length co26] 26 (0, 0)) (xb BK202.out) hb); have n10_ := Aside0.mk (blk_below (g := gb209) (o := .cells #[.slice Ao30 t203.length co30, .slice Ao34 t206.length co34] 26 (0, 0)) (xb BK209.out) hb); have n11_ := Aside0.mk (below_step (xs HB.out) hb); have n12_ := Aside0.mk (hbox); have n13_ := Aside0.mk ((by rw [hg]; exact (below_size (xs HB.out)) : w.heap.size ≤ gb217)); have n14_ := Aside0.mk ((by rw [hg]; exact (below_size (xs HB.out)) : w.heap.size ≤ gb217)); have n15_ := Aside0.mk ((by rw [hg]; exact Nat.ne_of_lt (blk_lt (g := gb187) (o := .cells #[.slice A0_0 l0_0.length c0_0, .slice A0_1 l0_1.length c0_1] 24 (0, 0)) (xb BK187.out)) : gb187 ≠ gb217)); have n16_ := Aside0.mk ((by rw [hg]; exact Nat.ne_of_gt (blk_lt (g := gb187) (o := .cells #[.slice A0_0 l0_0.length c0_0, .slice A0_1 l0_1.length c0_1] 24 (0, 0)) (xb BK187.out)) : gb217 ≠ gb187)); have n17_ := Aside0.mk ((by rw [hg]; exact Nat.ne_of_lt (blk_lt (g := gb202) (o := .cells #[.slice Ao23 t195.length co23, .slice Ao26 t198.length co26] 26 (0, 0)) (xb BK202.out)) : gb202 ≠ gb217)); have n18_ := Aside0.mk ((by rw [hg]; exact Nat.ne_of_gt (blk_lt (g := gb202) (o := .cells #[.slice Ao23 t195.length co23, .slice Ao26 t198.length co26] 26 (0, 0)) (xb BK202.out)) : gb217 ≠ gb202)); have n19_ := Aside0.mk ((by rw [hg]; exact Nat.ne_of_lt (blk_lt (g := gb209) (o := .cells #[.slice Ao30 t203.length co30, .slice Ao34 t206.length co34] 26 (0, 0)) (xb BK209.out)) : gb209 ≠ gb217)); have n20_ := Aside0.mk ((by rw [hg]; exact Nat.ne_of_gt (blk_lt (g := gb209) (o := .cells #[.slice Ao30 t203.length co30, .slice Ao34 t206.length co34] 26 (0, 0)) (xb BK209.out)) : gb217 ≠ gb209)); clear HO191; clear HO194; clear HO197; clear HO200; clear HO205; clear HO208; clear HO212; clear HO215; clear BK187; clear BK202; clear BK209; clear HB; have HO191 := n0_; have HO194 := n1_; have HO197 := n2_; have HO200 := n3_; have HO205 := n4_; have HO208 := n5_; have HO212 := n6_; have HO215 := n7_; have BK187 := n8_; have BK202 := n9_; have BK209 := n10_; have HB := n11_; have BK217 := n12_; have GW217 := n13_; have GE217 := n14_; have NB187_217 := n15_; have NB217_187 := n16_; have NB202_217 := n17_; have NB217_202 := n18_; have NB209_217 := n19_; have NB217_209 := n20_; clear n0_ n1_ n2_ n3_ n4_ n5_ n6_ n7_ n8_ n9_ n10_ n11_ n12_ n13_ n14_ n15_ n16_ n17_ n18_ n19_ n20_; clear hb hbox hg; obtain ⟨Ao37, co37, eo37⟩ := Kd.R_slice HO212.out; subst eo37; have hnb38 := NB217_187.out; have hnc38 := NB187_217.out; have hnb39 := NB217_202.out; have hnc39 := NB202_217.out; have hnb40 := NB217_209.out; have hnc40 := NB209_217.out; have hcz41_0 : w36.cell? ⟨gb217, 0, none⟩ = some (.slice none 0 0) := (blk_cell BK217.out 0).trans rfl; have hcz41_1 : w36.cell? ⟨gb217, 1, none⟩ = some (.slice none 0 0) := (blk_cell BK217.out 1).trans rfl; have hfz41_0 := blk_frozen BK217.out 0; have hfz41_1 := blk_frozen BK217.out 1; obtain ⟨Ao42, co42, eo42⟩ := Kd.R_slice HO215.out; subst eo42))
    (try simp only [Act.put, List.setIfInBounds_toArray, List.set_cons_zero, List.set_cons_succ])
    go_cut [48] (fun v48 wc => ∃ (kq : Nat) (x48_12 : Bool), v48 = .bool x48_12 ∧ Aside0 (laws_FnExactSwapVessels.j0 kq a1 a2 t201 t216 x48_12 l0_0 l0_1 t195 t198 t203 t206 t210 t213 = some true) ∧ Aside0 (kq ≤ k) ∧ Aside0 (Kd.R (Kd.int .i64) 3 wc w.heap.size (fun k_ => some k_ ≠ ((.slice Ao26 t198.length co26) : Value).ownBlock ∧ some k_ ≠ ((.slice Ao30 t203.length co30) : Value).ownBlock ∧ some k_ ≠ ((.slice Ao34 t206.length co34) : Value).ownBlock ∧ some k_ ≠ ((.slice Ao37 t210.length co37) : Value).ownBlock ∧ some k_ ≠ ((.slice Ao42 t213.length co42) : Value).ownBlock) (.slice Ao23 t195.length co23) t195) ∧ Aside0 (Kd.R (Kd.int .i64) 3 wc w.heap.size (fun k_ => some k_ ≠ ((.slice Ao23 t195.length co23) : Value).ownBlock ∧ some k_ ≠ ((.slice Ao30 t203.length co30) : Value).ownBlock ∧ some k_ ≠ ((.slice Ao34 t206.length co34) : Value).ownBlock ∧ some k_ ≠ ((.slice Ao37 t210.length co37) : Value).ownBlock ∧ some k_ ≠ ((.slice Ao42 t213.length co42) : Value).ownBlock) (.slice Ao26 t198.length co26) t198) ∧ Aside0 (Kd.R (Kd.int .i64) 3 wc w.heap.size (fun k_ => some k_ ≠ ((.slice Ao23 t195.length co23) : Value).ownBlock ∧ some k_ ≠ ((.slice Ao26 t198.length co26) : Value).ownBlock ∧ some k_ ≠ ((.slice Ao34 t206.length co34) : Value).ownBlock ∧ some k_ ≠ ((.slice Ao37 t210.length co37) : Value).ownBlock ∧ some k_ ≠ ((.slice Ao42 t213.length co42) : Value).ownBlock) (.slice Ao30 t203.length co30) t203) ∧ Aside0 (Kd.R (Kd.int .i64) 3 wc w.heap.size (fun k_ => some k_ ≠ ((.slice Ao23 t195.length co23) : Value).ownBlock ∧ some k_ ≠ ((.slice Ao26 t198.length co26) : Value).ownBlock ∧ some k_ ≠ ((.slice Ao30 t203.length co30) : Value).ownBlock ∧ some k_ ≠ ((.slice Ao37 t210.length co37) : Value).ownBlock ∧ some k_ ≠ ((.slice Ao42 t213.length co42) : Value).ownBlock) (.slice Ao34 t206.length co34) t206) ∧ Aside0 (Kd.R (Kd.int .i64) 3 wc w.heap.size (fun k_ => some k_ ≠ ((.slice Ao23 t195.length co23) : Value).ownBlock ∧ some k_ ≠ ((.slice Ao26 t198.length co26) : Value).ownBlock ∧ some k_ ≠ ((.slice Ao30 t203.length co30) : Value).ownBlock ∧ some k_ ≠ ((.slice Ao34 t206.length co34) : Value).ownBlock ∧ some k_ ≠ ((.slice Ao42 t213.length co42) : Value).ownBlock) (.slice Ao37 t210.length co37) t210) ∧ Aside0 (Kd.R (Kd.int .i64) 3 wc w.heap.size (fun k_ => some k_ ≠ ((.slice Ao23 t195.length co23) : Value).ownBlock ∧ some k_ ≠ ((.slice Ao26 t198.length co26) : Value).ownBlock ∧ some k_ ≠ ((.slice Ao30 t203.length co30) : Value).ownBlock ∧ some k_ ≠ ((.slice Ao34 t206.length co34) : Value).ownBlock ∧ some k_ ≠ ((.slice Ao37 t210.length co37) : Value).ownBlock) (.slice Ao42 t213.length co42) t213) ∧ Aside0 (wc.heap[gb187]? = some (.cells #[(.slice A0_0 l0_0.length c0_0), (.slice A0_1 l0_1.length c0_1)] 24 (0, 0))) ∧ Aside0 (wc.heap[gb202]? = some (.cells #[(.slice Ao23 t195.length co23), (.slice Ao26 t198.length co26)] 26 (0, 0))) ∧ Aside0 (wc.heap[gb209]? = some (.cells #[(.slice Ao30 t203.length co30), (.slice Ao34 t206.length co34)] 26 (0, 0))) ∧ Aside0 (wc.heap[gb217]? = some (.cells #[(.slice Ao37 t210.length co37), (.slice Ao42 t213.length co42)] 26 (0, 0))) ∧ Aside0 (Below w.heap.size w wc))
    case first =>
      have H := HC13.out
      clear HC13
      replace H := Option.bind_eq_some_iff.mp H
      obtain ⟨t218, A430, H⟩ := H
      replace H : (if t218 = true then (laws_FnExactSwapVessels.j0 k a1 a2 t201 t216 (t216 != t201) l0_0 l0_1 t195 t198 t203 t206 t210 t213) else (laws_FnExactSwapVessels.j0 k a1 a2 t201 t216 true l0_0 l0_1 t195 t198 t203 t206 t210 t213)) = some true := H
      have A43 := Aside0.mk A430
      clear A430
      by_cases c44 : t218 = true
      · subst c44
        have H1 : (laws_FnExactSwapVessels.j0 k a1 a2 t201 t216 (t216 != t201) l0_0 l0_1 t195 t198 t203 t206 t210 t213) = some true := by first | (rw [if_pos rfl] at H; exact H) | rfl
        clear H
        have H := H1
        clear H1
        have H' := Aside0.mk H
        clear H
        have hnb45 := NB217_187.out
        have hnc45 := NB187_217.out
        have hnb46 := NB217_202.out
        have hnc46 := NB202_217.out
        have hnb47 := NB217_209.out
        have hnc47 := NB209_217.out
        have hcz48_0 : w36.cell? ⟨gb217, 0, none⟩ = some (.slice none 0 0) := (blk_cell BK217.out 0).trans rfl
        have hcz48_1 : w36.cell? ⟨gb217, 1, none⟩ = some (.slice none 0 0) := (blk_cell BK217.out 1).trans rfl
        have hfz48_0 := blk_frozen BK217.out 0
        have hfz48_1 := blk_frozen BK217.out 1
        have hnb49 := NB202_187.out
        have hnc49 := NB187_202.out
        have hnb50 := NB202_209.out
        have hnc50 := NB209_202.out
        have hcz51_0 : w36.cell? ⟨gb202, 0, none⟩ = some (.slice Ao23 t195.length co23) := (blk_cell BK202.out 0).trans rfl
        have hcz51_1 : w36.cell? ⟨gb202, 1, none⟩ = some (.slice Ao26 t198.length co26) := (blk_cell BK202.out 1).trans rfl
        have hfz51_0 := blk_frozen BK202.out 0
        have hfz51_1 := blk_frozen BK202.out 1
        go_wp2_with (first | ((with_reducible refine gate_callee (f := 19) rfl ?_); refine goesL_ (some 42) rfl rfl Try.func19 (by kernel_rfl) rfl #[.agg #[.slice Ao37 t210.length co37, .slice Ao42 t213.length co42], .agg #[.slice Ao23 t195.length co23, .slice Ao26 t198.length co26]] rfl (by (try simp only [List.map_toArray, List.map_cons, List.map_nil]); first | done | rfl | (simp only [List.length_drop, List.length_take]; rfl)) ?_; (with_reducible refine (laws_eqVessels.calls k _ _ t210 _ _ t213 _ _ t195 _ _ t198 true _ ?side1 ?side2 ?side3 ?side4 ?side5 ?side6 ?side7 ?side8 A43.out).mono ?_); (case side1 => refine (Kd.R_reads' (e := 3) (base := w.heap.size) (ok := fun k_ => ((((((some k_ ≠ (.slice Ao42 t213.length co42 : Value).ownBlock ∧ some k_ ≠ (.slice Ao19 t189.length co19 : Value).ownBlock) ∧ some k_ ≠ (.slice Ao20 t192.length co20 : Value).ownBlock) ∧ some k_ ≠ (.slice Ao23 t195.length co23 : Value).ownBlock) ∧ some k_ ≠ (.slice Ao26 t198.length co26 : Value).ownBlock) ∧ some k_ ≠ (.slice Ao30 t203.length co30 : Value).ownBlock) ∧ some k_ ≠ (.slice Ao34 t206.length co34 : Value).ownBlock)) (n := t210.length) (c := co37) ?_).2.2; exact (by (with_reducible repeat (first | apply Kd.R_alloc | apply Kd.R_drewN | apply Kd.R_drew)); exact (Kd.R_mono (Kd.R_far (p := ⟨gb217, 1, none⟩) (Kd.R_far (p := ⟨gb217, 0, none⟩) (Kd.R_types HO212.out BK217.out (by decide)) (fun _ hk => hk.2) (.slice Ao37 t210.length co37)) (fun _ hk => hk.2) (.slice Ao42 t213.length co42)) (fun _ h_ => h_.1)))); (case side2 => exact (Kd.R_reads' HO212.out).2.1); (case side3 => refine (Kd.R_reads' (e := 3) (base := w.heap.size) (ok := fun k_ => ((((((some k_ ≠ (.slice Ao37 t210.length co37 : Value).ownBlock ∧ some k_ ≠ (.slice Ao19 t189.length co19 : Value).ownBlock) ∧ some k_ ≠ (.slice Ao20 t192.length co20 : Value).ownBlock) ∧ some k_ ≠ (.slice Ao23 t195.length co23 : Value).ownBlock) ∧ some k_ ≠ (.slice Ao26 t198.length co26 : Value).ownBlock) ∧ some k_ ≠ (.slice Ao30 t203.length co30 : Value).ownBlock) ∧ some k_ ≠ (.slice Ao34 t206.length co34 : Value).ownBlock)) (n := t213.length) (c := co42) ?_).2.2; exact (by (with_reducible repeat (first | apply Kd.R_alloc | apply Kd.R_drewN | apply Kd.R_drew)); exact (Kd.R_mono (Kd.R_far (p := ⟨gb217, 1, none⟩) (Kd.R_far (p := ⟨gb217, 0, none⟩) (Kd.R_types HO215.out BK217.out (by decide)) (fun _ hk => hk.2) (.slice Ao37 t210.length co37)) (fun _ hk => hk.2) (.slice Ao42 t213.length co42)) (fun _ h_ => h_.1)))); (case side4 => exact (Kd.R_reads' HO215.out).2.1); (case side5 => refine (Kd.R_reads' (e := 3) (base := w.heap.size) (ok := fun k_ => ((((((some k_ ≠ (.slice Ao26 t198.length co26 : Value).ownBlock ∧ some k_ ≠ (.slice Ao19 t189.length co19 : Value).ownBlock) ∧ some k_ ≠ (.slice Ao20 t192.length co20 : Value).ownBlock) ∧ some k_ ≠ (.slice Ao30 t203.length co30 : Value).ownBlock) ∧ some k_ ≠ (.slice Ao34 t206.length co34 : Value).ownBlock) ∧ some k_ ≠ (.slice Ao37 t210.length co37 : Value).ownBlock) ∧ some k_ ≠ (.slice Ao42 t213.length co42 : Value).ownBlock)) (n := t195.length) (c := co23) ?_).2.2; exact (by (with_reducible repeat (first | apply Kd.R_alloc | apply Kd.R_drewN | apply Kd.R_drew)); exact (Kd.R_mono (Kd.R_far (p := ⟨gb217, 1, none⟩) (Kd.R_far (p := ⟨gb217, 0, none⟩) (Kd.R_types HO197.out BK217.out (by decide)) (fun _ hk => hk.2) (.slice Ao37 t210.length co37)) (fun _ hk => hk.2) (.slice Ao42 t213.length co42)) (fun _ h_ => h_.1)))); (case side6 => exact (Kd.R_reads' HO197.out).2.1); (case side7 => refine (Kd.R_reads' (e := 3) (base := w.heap.size) (ok := fun k_ => ((((((some k_ ≠ (.slice Ao23 t195.length co23 : Value).ownBlock ∧ some k_ ≠ (.slice Ao19 t189.length co19 : Value).ownBlock) ∧ some k_ ≠ (.slice Ao20 t192.length co20 : Value).ownBlock) ∧ some k_ ≠ (.slice Ao30 t203.length co30 : Value).ownBlock) ∧ some k_ ≠ (.slice Ao34 t206.length co34 : Value).ownBlock) ∧ some k_ ≠ (.slice Ao37 t210.length co37 : Value).ownBlock) ∧ some k_ ≠ (.slice Ao42 t213.length co42 : Value).ownBlock)) (n := t198.length) (c := co26) ?_).2.2; exact (by (with_reducible repeat (first | apply Kd.R_alloc | apply Kd.R_drewN | apply Kd.R_drew)); exact (Kd.R_mono (Kd.R_far (p := ⟨gb217, 1, none⟩) (Kd.R_far (p := ⟨gb217, 0, none⟩) (Kd.R_types HO200.out BK217.out (by decide)) (fun _ hk => hk.2) (.slice Ao37 t210.length co37)) (fun _ hk => hk.2) (.slice Ao42 t213.length co42)) (fun _ h_ => h_.1)))); (case side8 => exact (Kd.R_reads' HO200.out).2.1); rintro e w52 ⟨rfl, hb⟩; refine ⟨_, rfl, ?_⟩; have n0_ := Aside0.mk (Kd.R_below (by (with_reducible repeat (first | apply Kd.R_alloc | apply Kd.R_drewN | apply Kd.R_drew)); exact (Kd.R_mono (Kd.R_far (p := ⟨gb217, 1, none⟩) (Kd.R_far (p := ⟨gb217, 0, none⟩) (Kd.R_types HO191.out BK217.out (by decide)) (fun _ hk => hk.2) (.slice Ao37 t210.length co37)) (fun _ hk => hk.2) (.slice Ao42 t213.length co42)) (fun _ h_ => h_.1))) hb); have n1_ := Aside0.mk (Kd.R_below (by (with_reducible repeat (first | apply Kd.R_alloc | apply Kd.R_drewN | apply Kd.R_drew)); exact (Kd.R_mono (Kd.R_far (p := ⟨gb217, 1, none⟩) (Kd.R_far (p := ⟨gb217, 0, none⟩) (Kd.R_types HO194.out BK217.out (by decide)) (fun _ hk => hk.2) (.slice Ao37 t210.length co37)) (fun _ hk => hk.2) (.slice Ao42 t213.length co42)) (fun _ h_ => h_.1))) hb); have n2_ := Aside0.mk (Kd.R_below (by (with_reducible repeat (first | apply Kd.R_alloc | apply Kd.R_drewN | apply Kd.R_drew)); exact (Kd.R_mono (Kd.R_far (p := ⟨gb217, 1, none⟩) (Kd.R_far (p := ⟨gb217, 0, none⟩) (Kd.R_types HO197.out BK217.out (by decide)) (fun _ hk => hk.2) (.slice Ao37 t210.length co37)) (fun _ hk => hk.2) (.slice Ao42 t213.length co42)) (fun _ h_ => h_.1))) hb); have n3_ := Aside0.mk (Kd.R_below (by (with_reducible repeat (first | apply Kd.R_alloc | apply Kd.R_drewN | apply Kd.R_drew)); exact (Kd.R_mono (Kd.R_far (p := ⟨gb217, 1, none⟩) (Kd.R_far (p := ⟨gb217, 0, none⟩) (Kd.R_types HO200.out BK217.out (by decide)) (fun _ hk => hk.2) (.slice Ao37 t210.length co37)) (fun _ hk => hk.2) (.slice Ao42 t213.length co42)) (fun _ h_ => h_.1))) hb); have n4_ := Aside0.mk (Kd.R_below (by (with_reducible repeat (first | apply Kd.R_alloc | apply Kd.R_drewN | apply Kd.R_drew)); exact (Kd.R_mono (Kd.R_far (p := ⟨gb217, 1, none⟩) (Kd.R_far (p := ⟨gb217, 0, none⟩) (Kd.R_types HO205.out BK217.out (by decide)) (fun _ hk => hk.2) (.slice Ao37 t210.length co37)) (fun _ hk => hk.2) (.slice Ao42 t213.length co42)) (fun _ h_ => h_.1))) hb); have n5_ := Aside0.mk (Kd.R_below (by (with_reducible repeat (first | apply Kd.R_alloc | apply Kd.R_drewN | apply Kd.R_drew)); exact (Kd.R_mono (Kd.R_far (p := ⟨gb217, 1, none⟩) (Kd.R_far (p := ⟨gb217, 0, none⟩) (Kd.R_types HO208.out BK217.out (by decide)) (fun _ hk => hk.2) (.slice Ao37 t210.length co37)) (fun _ hk => hk.2) (.slice Ao42 t213.length co42)) (fun _ h_ => h_.1))) hb); have n6_ := Aside0.mk (Kd.R_below (by (with_reducible repeat (first | apply Kd.R_alloc | apply Kd.R_drewN | apply Kd.R_drew)); exact (Kd.R_mono (Kd.R_far (p := ⟨gb217, 1, none⟩) (Kd.R_far (p := ⟨gb217, 0, none⟩) (Kd.R_types HO212.out BK217.out (by decide)) (fun _ hk => hk.2) (.slice Ao37 t210.length co37)) (fun _ hk => hk.2) (.slice Ao42 t213.length co42)) (fun _ h_ => h_.1))) hb); have n7_ := Aside0.mk (Kd.R_below (by (with_reducible repeat (first | apply Kd.R_alloc | apply Kd.R_drewN | apply Kd.R_drew)); exact (Kd.R_mono (Kd.R_far (p := ⟨gb217, 1, none⟩) (Kd.R_far (p := ⟨gb217, 0, none⟩) (Kd.R_types HO215.out BK217.out (by decide)) (fun _ hk => hk.2) (.slice Ao37 t210.length co37)) (fun _ hk => hk.2) (.slice Ao42 t213.length co42)) (fun _ h_ => h_.1))) hb); have n8_ := Aside0.mk (blk_below (g := gb187) (o := .cells #[.slice A0_0 l0_0.length c0_0, .slice A0_1 l0_1.length c0_1] 24 (0, 0)) (xff NB187_217.out NB187_217.out BK187.out) hb); have n9_ := Aside0.mk (blk_below (g := gb202) (o := .cells #[.slice Ao23 t195.length co23, .slice Ao26 t198.length co26] 26 (0, 0)) (xff NB202_217.out NB202_217.out BK202.out) hb); have n10_ := Aside0.mk (blk_below (g := gb209) (o := .cells #[.slice Ao30 t203.length co30, .slice Ao34 t206.length co34] 26 (0, 0)) (xff NB209_217.out NB209_217.out BK209.out) hb); have n11_ := Aside0.mk (blk_below (g := gb217) (o := .cells #[.slice Ao37 t210.length co37, .slice Ao42 t213.length co42] 26 (0, 0)) (by (with_reducible repeat (first | refine blk_drewN ?_ _ | refine blk_drew ?_ | refine blk_alloc ?_ _)); refine blk_put (cs := #[.slice Ao37 t210.length co37, .slice none 0 0]) ?_ 1 _ rfl; (with_reducible repeat (first | refine blk_drewN ?_ _ | refine blk_drew ?_ | refine blk_alloc ?_ _)); refine blk_put (cs := #[.slice none 0 0, .slice none 0 0]) ?_ 0 _ rfl; (with_reducible repeat (first | refine blk_drewN ?_ _ | refine blk_drew ?_ | refine blk_alloc ?_ _)); exact BK217.out) hb); have n12_ := Aside0.mk (below_step (xs HB.out) hb); clear HO191; clear HO194; clear HO197; clear HO200; clear HO205; clear HO208; clear HO212; clear HO215; clear BK187; clear BK202; clear BK209; clear BK217; clear HB; have HO191 := n0_; have HO194 := n1_; have HO197 := n2_; have HO200 := n3_; have HO205 := n4_; have HO208 := n5_; have HO212 := n6_; have HO215 := n7_; have BK187 := n8_; have BK202 := n9_; have BK209 := n10_; have BK217 := n11_; have HB := n12_; clear n0_ n1_ n2_ n3_ n4_ n5_ n6_ n7_ n8_ n9_ n10_ n11_ n12_; (try clear hb); (try clear hb2); (try clear hk); (try clear hi)))
        go_meet
        case rel => exact ⟨_, ((t216 != t201)), (by first | rfl | (simp; done) | (simp [*]; done)), H', ⟨by first | omega | exact Nat.le_refl _⟩, ⟨by (with_reducible repeat (first | apply Kd.R_alloc | apply Kd.R_drewN | apply Kd.R_drew)); exact Kd.R_mono HO197.out (fun _ hk => ⟨hk.1.1.1.1.1.1, ⟨hk.1.1.1.2, ⟨hk.1.1.2, ⟨hk.1.2, hk.2⟩⟩⟩⟩)⟩, ⟨by (with_reducible repeat (first | apply Kd.R_alloc | apply Kd.R_drewN | apply Kd.R_drew)); exact Kd.R_mono HO200.out (fun _ hk => ⟨hk.1.1.1.1.1.1, ⟨hk.1.1.1.2, ⟨hk.1.1.2, ⟨hk.1.2, hk.2⟩⟩⟩⟩)⟩, ⟨by (with_reducible repeat (first | apply Kd.R_alloc | apply Kd.R_drewN | apply Kd.R_drew)); exact Kd.R_mono HO205.out (fun _ hk => ⟨hk.1.1.1.2, ⟨hk.1.1.2, ⟨hk.1.1.1.1.1.1, ⟨hk.1.2, hk.2⟩⟩⟩⟩)⟩, ⟨by (with_reducible repeat (first | apply Kd.R_alloc | apply Kd.R_drewN | apply Kd.R_drew)); exact Kd.R_mono HO208.out (fun _ hk => ⟨hk.1.1.1.2, ⟨hk.1.1.2, ⟨hk.1.1.1.1.1.1, ⟨hk.1.2, hk.2⟩⟩⟩⟩)⟩, ⟨by (with_reducible repeat (first | apply Kd.R_alloc | apply Kd.R_drewN | apply Kd.R_drew)); exact Kd.R_mono HO212.out (fun _ hk => ⟨hk.1.1.1.2, ⟨hk.1.1.2, ⟨hk.1.2, ⟨hk.2, hk.1.1.1.1.1.1⟩⟩⟩⟩)⟩, ⟨by (with_reducible repeat (first | apply Kd.R_alloc | apply Kd.R_drewN | apply Kd.R_drew)); exact Kd.R_mono HO215.out (fun _ hk => ⟨hk.1.1.1.2, ⟨hk.1.1.2, ⟨hk.1.2, ⟨hk.2, hk.1.1.1.1.1.1⟩⟩⟩⟩)⟩, ⟨xb BK187.out⟩, ⟨xb BK202.out⟩, ⟨xb BK209.out⟩, ⟨xb BK217.out⟩, ⟨xs HB.out⟩⟩
      · replace c44 := Bool.eq_false_iff.mpr c44
        subst c44
        have H1 : (laws_FnExactSwapVessels.j0 k a1 a2 t201 t216 true l0_0 l0_1 t195 t198 t203 t206 t210 t213) = some true := by first | (rw [if_neg (show ¬ (false = true) by decide)] at H; exact H) | rfl
        clear H
        have H := H1
        clear H1
        have H' := Aside0.mk H
        clear H
        have hnb53 := NB217_187.out
        have hnc53 := NB187_217.out
        have hnb54 := NB217_202.out
        have hnc54 := NB202_217.out
        have hnb55 := NB217_209.out
        have hnc55 := NB209_217.out
        have hcz56_0 : w36.cell? ⟨gb217, 0, none⟩ = some (.slice none 0 0) := (blk_cell BK217.out 0).trans rfl
        have hcz56_1 : w36.cell? ⟨gb217, 1, none⟩ = some (.slice none 0 0) := (blk_cell BK217.out 1).trans rfl
        have hfz56_0 := blk_frozen BK217.out 0
        have hfz56_1 := blk_frozen BK217.out 1
        have hnb57 := NB202_187.out
        have hnc57 := NB187_202.out
        have hnb58 := NB202_209.out
        have hnc58 := NB209_202.out
        have hcz59_0 : w36.cell? ⟨gb202, 0, none⟩ = some (.slice Ao23 t195.length co23) := (blk_cell BK202.out 0).trans rfl
        have hcz59_1 : w36.cell? ⟨gb202, 1, none⟩ = some (.slice Ao26 t198.length co26) := (blk_cell BK202.out 1).trans rfl
        have hfz59_0 := blk_frozen BK202.out 0
        have hfz59_1 := blk_frozen BK202.out 1
        go_wp2_with (first | ((with_reducible refine gate_callee (f := 19) rfl ?_); refine goesL_ (some 42) rfl rfl Try.func19 (by kernel_rfl) rfl #[.agg #[.slice Ao37 t210.length co37, .slice Ao42 t213.length co42], .agg #[.slice Ao23 t195.length co23, .slice Ao26 t198.length co26]] rfl (by (try simp only [List.map_toArray, List.map_cons, List.map_nil]); first | done | rfl | (simp only [List.length_drop, List.length_take]; rfl)) ?_; (with_reducible refine (laws_eqVessels.calls k _ _ t210 _ _ t213 _ _ t195 _ _ t198 false _ ?side1 ?side2 ?side3 ?side4 ?side5 ?side6 ?side7 ?side8 A43.out).mono ?_); (case side1 => refine (Kd.R_reads' (e := 3) (base := w.heap.size) (ok := fun k_ => ((((((some k_ ≠ (.slice Ao42 t213.length co42 : Value).ownBlock ∧ some k_ ≠ (.slice Ao19 t189.length co19 : Value).ownBlock) ∧ some k_ ≠ (.slice Ao20 t192.length co20 : Value).ownBlock) ∧ some k_ ≠ (.slice Ao23 t195.length co23 : Value).ownBlock) ∧ some k_ ≠ (.slice Ao26 t198.length co26 : Value).ownBlock) ∧ some k_ ≠ (.slice Ao30 t203.length co30 : Value).ownBlock) ∧ some k_ ≠ (.slice Ao34 t206.length co34 : Value).ownBlock)) (n := t210.length) (c := co37) ?_).2.2; exact (by (with_reducible repeat (first | apply Kd.R_alloc | apply Kd.R_drewN | apply Kd.R_drew)); exact (Kd.R_mono (Kd.R_far (p := ⟨gb217, 1, none⟩) (Kd.R_far (p := ⟨gb217, 0, none⟩) (Kd.R_types HO212.out BK217.out (by decide)) (fun _ hk => hk.2) (.slice Ao37 t210.length co37)) (fun _ hk => hk.2) (.slice Ao42 t213.length co42)) (fun _ h_ => h_.1)))); (case side2 => exact (Kd.R_reads' HO212.out).2.1); (case side3 => refine (Kd.R_reads' (e := 3) (base := w.heap.size) (ok := fun k_ => ((((((some k_ ≠ (.slice Ao37 t210.length co37 : Value).ownBlock ∧ some k_ ≠ (.slice Ao19 t189.length co19 : Value).ownBlock) ∧ some k_ ≠ (.slice Ao20 t192.length co20 : Value).ownBlock) ∧ some k_ ≠ (.slice Ao23 t195.length co23 : Value).ownBlock) ∧ some k_ ≠ (.slice Ao26 t198.length co26 : Value).ownBlock) ∧ some k_ ≠ (.slice Ao30 t203.length co30 : Value).ownBlock) ∧ some k_ ≠ (.slice Ao34 t206.length co34 : Value).ownBlock)) (n := t213.length) (c := co42) ?_).2.2; exact (by (with_reducible repeat (first | apply Kd.R_alloc | apply Kd.R_drewN | apply Kd.R_drew)); exact (Kd.R_mono (Kd.R_far (p := ⟨gb217, 1, none⟩) (Kd.R_far (p := ⟨gb217, 0, none⟩) (Kd.R_types HO215.out BK217.out (by decide)) (fun _ hk => hk.2) (.slice Ao37 t210.length co37)) (fun _ hk => hk.2) (.slice Ao42 t213.length co42)) (fun _ h_ => h_.1)))); (case side4 => exact (Kd.R_reads' HO215.out).2.1); (case side5 => refine (Kd.R_reads' (e := 3) (base := w.heap.size) (ok := fun k_ => ((((((some k_ ≠ (.slice Ao26 t198.length co26 : Value).ownBlock ∧ some k_ ≠ (.slice Ao19 t189.length co19 : Value).ownBlock) ∧ some k_ ≠ (.slice Ao20 t192.length co20 : Value).ownBlock) ∧ some k_ ≠ (.slice Ao30 t203.length co30 : Value).ownBlock) ∧ some k_ ≠ (.slice Ao34 t206.length co34 : Value).ownBlock) ∧ some k_ ≠ (.slice Ao37 t210.length co37 : Value).ownBlock) ∧ some k_ ≠ (.slice Ao42 t213.length co42 : Value).ownBlock)) (n := t195.length) (c := co23) ?_).2.2; exact (by (with_reducible repeat (first | apply Kd.R_alloc | apply Kd.R_drewN | apply Kd.R_drew)); exact (Kd.R_mono (Kd.R_far (p := ⟨gb217, 1, none⟩) (Kd.R_far (p := ⟨gb217, 0, none⟩) (Kd.R_types HO197.out BK217.out (by decide)) (fun _ hk => hk.2) (.slice Ao37 t210.length co37)) (fun _ hk => hk.2) (.slice Ao42 t213.length co42)) (fun _ h_ => h_.1)))); (case side6 => exact (Kd.R_reads' HO197.out).2.1); (case side7 => refine (Kd.R_reads' (e := 3) (base := w.heap.size) (ok := fun k_ => ((((((some k_ ≠ (.slice Ao23 t195.length co23 : Value).ownBlock ∧ some k_ ≠ (.slice Ao19 t189.length co19 : Value).ownBlock) ∧ some k_ ≠ (.slice Ao20 t192.length co20 : Value).ownBlock) ∧ some k_ ≠ (.slice Ao30 t203.length co30 : Value).ownBlock) ∧ some k_ ≠ (.slice Ao34 t206.length co34 : Value).ownBlock) ∧ some k_ ≠ (.slice Ao37 t210.length co37 : Value).ownBlock) ∧ some k_ ≠ (.slice Ao42 t213.length co42 : Value).ownBlock)) (n := t198.length) (c := co26) ?_).2.2; exact (by (with_reducible repeat (first | apply Kd.R_alloc | apply Kd.R_drewN | apply Kd.R_drew)); exact (Kd.R_mono (Kd.R_far (p := ⟨gb217, 1, none⟩) (Kd.R_far (p := ⟨gb217, 0, none⟩) (Kd.R_types HO200.out BK217.out (by decide)) (fun _ hk => hk.2) (.slice Ao37 t210.length co37)) (fun _ hk => hk.2) (.slice Ao42 t213.length co42)) (fun _ h_ => h_.1)))); (case side8 => exact (Kd.R_reads' HO200.out).2.1); rintro e w60 ⟨rfl, hb⟩; refine ⟨_, rfl, ?_⟩; have n0_ := Aside0.mk (Kd.R_below (by (with_reducible repeat (first | apply Kd.R_alloc | apply Kd.R_drewN | apply Kd.R_drew)); exact (Kd.R_mono (Kd.R_far (p := ⟨gb217, 1, none⟩) (Kd.R_far (p := ⟨gb217, 0, none⟩) (Kd.R_types HO191.out BK217.out (by decide)) (fun _ hk => hk.2) (.slice Ao37 t210.length co37)) (fun _ hk => hk.2) (.slice Ao42 t213.length co42)) (fun _ h_ => h_.1))) hb); have n1_ := Aside0.mk (Kd.R_below (by (with_reducible repeat (first | apply Kd.R_alloc | apply Kd.R_drewN | apply Kd.R_drew)); exact (Kd.R_mono (Kd.R_far (p := ⟨gb217, 1, none⟩) (Kd.R_far (p := ⟨gb217, 0, none⟩) (Kd.R_types HO194.out BK217.out (by decide)) (fun _ hk => hk.2) (.slice Ao37 t210.length co37)) (fun _ hk => hk.2) (.slice Ao42 t213.length co42)) (fun _ h_ => h_.1))) hb); have n2_ := Aside0.mk (Kd.R_below (by (with_reducible repeat (first | apply Kd.R_alloc | apply Kd.R_drewN | apply Kd.R_drew)); exact (Kd.R_mono (Kd.R_far (p := ⟨gb217, 1, none⟩) (Kd.R_far (p := ⟨gb217, 0, none⟩) (Kd.R_types HO197.out BK217.out (by decide)) (fun _ hk => hk.2) (.slice Ao37 t210.length co37)) (fun _ hk => hk.2) (.slice Ao42 t213.length co42)) (fun _ h_ => h_.1))) hb); have n3_ := Aside0.mk (Kd.R_below (by (with_reducible repeat (first | apply Kd.R_alloc | apply Kd.R_drewN | apply Kd.R_drew)); exact (Kd.R_mono (Kd.R_far (p := ⟨gb217, 1, none⟩) (Kd.R_far (p := ⟨gb217, 0, none⟩) (Kd.R_types HO200.out BK217.out (by decide)) (fun _ hk => hk.2) (.slice Ao37 t210.length co37)) (fun _ hk => hk.2) (.slice Ao42 t213.length co42)) (fun _ h_ => h_.1))) hb); have n4_ := Aside0.mk (Kd.R_below (by (with_reducible repeat (first | apply Kd.R_alloc | apply Kd.R_drewN | apply Kd.R_drew)); exact (Kd.R_mono (Kd.R_far (p := ⟨gb217, 1, none⟩) (Kd.R_far (p := ⟨gb217, 0, none⟩) (Kd.R_types HO205.out BK217.out (by decide)) (fun _ hk => hk.2) (.slice Ao37 t210.length co37)) (fun _ hk => hk.2) (.slice Ao42 t213.length co42)) (fun _ h_ => h_.1))) hb); have n5_ := Aside0.mk (Kd.R_below (by (with_reducible repeat (first | apply Kd.R_alloc | apply Kd.R_drewN | apply Kd.R_drew)); exact (Kd.R_mono (Kd.R_far (p := ⟨gb217, 1, none⟩) (Kd.R_far (p := ⟨gb217, 0, none⟩) (Kd.R_types HO208.out BK217.out (by decide)) (fun _ hk => hk.2) (.slice Ao37 t210.length co37)) (fun _ hk => hk.2) (.slice Ao42 t213.length co42)) (fun _ h_ => h_.1))) hb); have n6_ := Aside0.mk (Kd.R_below (by (with_reducible repeat (first | apply Kd.R_alloc | apply Kd.R_drewN | apply Kd.R_drew)); exact (Kd.R_mono (Kd.R_far (p := ⟨gb217, 1, none⟩) (Kd.R_far (p := ⟨gb217, 0, none⟩) (Kd.R_types HO212.out BK217.out (by decide)) (fun _ hk => hk.2) (.slice Ao37 t210.length co37)) (fun _ hk => hk.2) (.slice Ao42 t213.length co42)) (fun _ h_ => h_.1))) hb); have n7_ := Aside0.mk (Kd.R_below (by (with_reducible repeat (first | apply Kd.R_alloc | apply Kd.R_drewN | apply Kd.R_drew)); exact (Kd.R_mono (Kd.R_far (p := ⟨gb217, 1, none⟩) (Kd.R_far (p := ⟨gb217, 0, none⟩) (Kd.R_types HO215.out BK217.out (by decide)) (fun _ hk => hk.2) (.slice Ao37 t210.length co37)) (fun _ hk => hk.2) (.slice Ao42 t213.length co42)) (fun _ h_ => h_.1))) hb); have n8_ := Aside0.mk (blk_below (g := gb187) (o := .cells #[.slice A0_0 l0_0.length c0_0, .slice A0_1 l0_1.length c0_1] 24 (0, 0)) (xff NB187_217.out NB187_217.out BK187.out) hb); have n9_ := Aside0.mk (blk_below (g := gb202) (o := .cells #[.slice Ao23 t195.length co23, .slice Ao26 t198.length co26] 26 (0, 0)) (xff NB202_217.out NB202_217.out BK202.out) hb); have n10_ := Aside0.mk (blk_below (g := gb209) (o := .cells #[.slice Ao30 t203.length co30, .slice Ao34 t206.length co34] 26 (0, 0)) (xff NB209_217.out NB209_217.out BK209.out) hb); have n11_ := Aside0.mk (blk_below (g := gb217) (o := .cells #[.slice Ao37 t210.length co37, .slice Ao42 t213.length co42] 26 (0, 0)) (by (with_reducible repeat (first | refine blk_drewN ?_ _ | refine blk_drew ?_ | refine blk_alloc ?_ _)); refine blk_put (cs := #[.slice Ao37 t210.length co37, .slice none 0 0]) ?_ 1 _ rfl; (with_reducible repeat (first | refine blk_drewN ?_ _ | refine blk_drew ?_ | refine blk_alloc ?_ _)); refine blk_put (cs := #[.slice none 0 0, .slice none 0 0]) ?_ 0 _ rfl; (with_reducible repeat (first | refine blk_drewN ?_ _ | refine blk_drew ?_ | refine blk_alloc ?_ _)); exact BK217.out) hb); have n12_ := Aside0.mk (below_step (xs HB.out) hb); clear HO191; clear HO194; clear HO197; clear HO200; clear HO205; clear HO208; clear HO212; clear HO215; clear BK187; clear BK202; clear BK209; clear BK217; clear HB; have HO191 := n0_; have HO194 := n1_; have HO197 := n2_; have HO200 := n3_; have HO205 := n4_; have HO208 := n5_; have HO212 := n6_; have HO215 := n7_; have BK187 := n8_; have BK202 := n9_; have BK209 := n10_; have BK217 := n11_; have HB := n12_; clear n0_ n1_ n2_ n3_ n4_ n5_ n6_ n7_ n8_ n9_ n10_ n11_ n12_; (try clear hb); (try clear hb2); (try clear hk); (try clear hi)))
        go_meet
        case rel => exact ⟨_, (true), (by first | rfl | (simp; done) | (simp [*]; done)), H', ⟨by first | omega | exact Nat.le_refl _⟩, ⟨by (with_reducible repeat (first | apply Kd.R_alloc | apply Kd.R_drewN | apply Kd.R_drew)); exact Kd.R_mono HO197.out (fun _ hk => ⟨hk.1.1.1.1.1.1, ⟨hk.1.1.1.2, ⟨hk.1.1.2, ⟨hk.1.2, hk.2⟩⟩⟩⟩)⟩, ⟨by (with_reducible repeat (first | apply Kd.R_alloc | apply Kd.R_drewN | apply Kd.R_drew)); exact Kd.R_mono HO200.out (fun _ hk => ⟨hk.1.1.1.1.1.1, ⟨hk.1.1.1.2, ⟨hk.1.1.2, ⟨hk.1.2, hk.2⟩⟩⟩⟩)⟩, ⟨by (with_reducible repeat (first | apply Kd.R_alloc | apply Kd.R_drewN | apply Kd.R_drew)); exact Kd.R_mono HO205.out (fun _ hk => ⟨hk.1.1.1.2, ⟨hk.1.1.2, ⟨hk.1.1.1.1.1.1, ⟨hk.1.2, hk.2⟩⟩⟩⟩)⟩, ⟨by (with_reducible repeat (first | apply Kd.R_alloc | apply Kd.R_drewN | apply Kd.R_drew)); exact Kd.R_mono HO208.out (fun _ hk => ⟨hk.1.1.1.2, ⟨hk.1.1.2, ⟨hk.1.1.1.1.1.1, ⟨hk.1.2, hk.2⟩⟩⟩⟩)⟩, ⟨by (with_reducible repeat (first | apply Kd.R_alloc | apply Kd.R_drewN | apply Kd.R_drew)); exact Kd.R_mono HO212.out (fun _ hk => ⟨hk.1.1.1.2, ⟨hk.1.1.2, ⟨hk.1.2, ⟨hk.2, hk.1.1.1.1.1.1⟩⟩⟩⟩)⟩, ⟨by (with_reducible repeat (first | apply Kd.R_alloc | apply Kd.R_drewN | apply Kd.R_drew)); exact Kd.R_mono HO215.out (fun _ hk => ⟨hk.1.1.1.2, ⟨hk.1.1.2, ⟨hk.1.2, ⟨hk.2, hk.1.1.1.1.1.1⟩⟩⟩⟩)⟩, ⟨xb BK187.out⟩, ⟨xb BK202.out⟩, ⟨xb BK209.out⟩, ⟨xb BK217.out⟩, ⟨xs HB.out⟩⟩
    case rest =>
      clear HC13
      try clear c1
      try clear c2
      try clear p2
      try clear c3
      try clear c4
      try clear c5
      try clear c5b0
      try clear c15
      try clear c16
      try clear c17
      try clear c18
      try clear c19
      try clear c24
      try clear c31
      try clear c32
      try clear c38
      try clear c39
      try clear c40
      try clear c44
      try clear c45
      try clear c46
      try clear c47
      try clear c49
      try clear c50
      try clear c53
      try clear c54
      try clear c55
      try clear c57
      try clear c58
      try clear hcz15_0
      try clear hcz15_1
      try clear hcz17_0
      try clear hcz17_1
      try clear hcz25_0
      try clear hcz25_1
      try clear hcz27_0
      try clear hcz27_1
      try clear hcz33_0
      try clear hcz33_1
      try clear hcz41_0
      try clear hcz41_1
      try clear hcz48_0
      try clear hcz48_1
      try clear hcz51_0
      try clear hcz51_1
      try clear hcz56_0
      try clear hcz56_1
      try clear hcz59_0
      try clear hcz59_1
      try clear hcz7_0
      try clear hcz7_1
      try clear hfz15_0
      try clear hfz15_1
      try clear hfz17_0
      try clear hfz17_1
      try clear hfz25_0
      try clear hfz25_1
      try clear hfz27_0
      try clear hfz27_1
      try clear hfz33_0
      try clear hfz33_1
      try clear hfz41_0
      try clear hfz41_1
      try clear hfz48_0
      try clear hfz48_1
      try clear hfz51_0
      try clear hfz51_1
      try clear hfz56_0
      try clear hfz56_1
      try clear hfz59_0
      try clear hfz59_1
      try clear hfz7_0
      try clear hfz7_1
      obtain ⟨kq, x48_12, rfl, HA, HJ12, HO_203000, HO_203001, HO_210000, HO_210001, HO_218000, HO_218001, BK187, BK202, BK209, BK217, HB⟩ := hcut
      cases kq with
      | zero => exact absurd HA.out (by simp [laws_FnExactSwapVessels.j0])
      | succ kj12 =>
        have H := HA.out
        clear HA
        simp only [laws_FnExactSwapVessels.j0] at H
        by_cases c61 : x48_12 = true
        · subst c61
          have H1 : (some false) = some true := by first | (rw [if_pos rfl] at H; exact H) | rfl
          clear H
          have H := H1
          clear H1
          exact absurd H (by simp)
        · replace c61 := Bool.eq_false_iff.mpr c61
          subst c61
          have H1 : ((laws_toVessels.f kj12 l0_0 l0_1).bind fun bt219 => ((laws_eqVessels.f kj12 t203 t206 bt219.1 bt219.2).bind fun t225 => (if t225 = true then ((laws_markVessels.f kj12 t203 t206 1).bind fun bt226 => (if bt226.1 < 0 then (laws_FnExactSwapVessels.j1 kj12 a1 a2 t201 true l0_0 l0_1 t195 t198 t210 t213) else ((laws_eqVessels.f kj12 t210 t213 t195 t198).bind fun t229 => (if t229 = true then (laws_FnExactSwapVessels.j1 kj12 a1 a2 t201 (t216 != t201) l0_0 l0_1 t195 t198 t210 t213) else (laws_FnExactSwapVessels.j1 kj12 a1 a2 t201 true l0_0 l0_1 t195 t198 t210 t213))))) else (some false)))) = some true := by first | (rw [if_neg (show ¬ (false = true) by decide)] at H; exact H) | rfl
          clear H
          have H := H1
          clear H1
          replace H := Option.bind_eq_some_iff.mp H
          obtain ⟨⟨t219, t222⟩, A620, H⟩ := H
          replace H : ((laws_eqVessels.f kj12 t203 t206 t219 t222).bind fun t225 => (if t225 = true then ((laws_markVessels.f kj12 t203 t206 1).bind fun bt226 => (if bt226.1 < 0 then (laws_FnExactSwapVessels.j1 kj12 a1 a2 t201 true l0_0 l0_1 t195 t198 t210 t213) else ((laws_eqVessels.f kj12 t210 t213 t195 t198).bind fun t229 => (if t229 = true then (laws_FnExactSwapVessels.j1 kj12 a1 a2 t201 (t216 != t201) l0_0 l0_1 t195 t198 t210 t213) else (laws_FnExactSwapVessels.j1 kj12 a1 a2 t201 true l0_0 l0_1 t195 t198 t210 t213))))) else (some false))) = some true := H
          have A62 := Aside0.mk A620
          clear A620
          replace H := Option.bind_eq_some_iff.mp H
          obtain ⟨t225, A630, H⟩ := H
          replace H : (if t225 = true then ((laws_markVessels.f kj12 t203 t206 1).bind fun bt226 => (if bt226.1 < 0 then (laws_FnExactSwapVessels.j1 kj12 a1 a2 t201 true l0_0 l0_1 t195 t198 t210 t213) else ((laws_eqVessels.f kj12 t210 t213 t195 t198).bind fun t229 => (if t229 = true then (laws_FnExactSwapVessels.j1 kj12 a1 a2 t201 (t216 != t201) l0_0 l0_1 t195 t198 t210 t213) else (laws_FnExactSwapVessels.j1 kj12 a1 a2 t201 true l0_0 l0_1 t195 t198 t210 t213))))) else (some false)) = some true := H
          have A63 := Aside0.mk A630
          clear A630
          by_cases c64 : t225 = true
          · subst c64
            have H1 : ((laws_markVessels.f kj12 t203 t206 1).bind fun bt226 => (if bt226.1 < 0 then (laws_FnExactSwapVessels.j1 kj12 a1 a2 t201 true l0_0 l0_1 t195 t198 t210 t213) else ((laws_eqVessels.f kj12 t210 t213 t195 t198).bind fun t229 => (if t229 = true then (laws_FnExactSwapVessels.j1 kj12 a1 a2 t201 (t216 != t201) l0_0 l0_1 t195 t198 t210 t213) else (laws_FnExactSwapVessels.j1 kj12 a1 a2 t201 true l0_0 l0_1 t195 t198 t210 t213))))) = some true := by first | (rw [if_pos rfl] at H; exact H) | rfl
            clear H
            have H := H1
            clear H1
            replace H := Option.bind_eq_some_iff.mp H
            obtain ⟨⟨t226, t227, t228⟩, A650, H⟩ := H
            replace H : (if t226 < 0 then (laws_FnExactSwapVessels.j1 kj12 a1 a2 t201 true l0_0 l0_1 t195 t198 t210 t213) else ((laws_eqVessels.f kj12 t210 t213 t195 t198).bind fun t229 => (if t229 = true then (laws_FnExactSwapVessels.j1 kj12 a1 a2 t201 (t216 != t201) l0_0 l0_1 t195 t198 t210 t213) else (laws_FnExactSwapVessels.j1 kj12 a1 a2 t201 true l0_0 l0_1 t195 t198 t210 t213)))) = some true := H
            have A65 := Aside0.mk A650
            clear A650
            have HC66 := Aside0.mk H
            clear H
            try go_wp2
            have n0_ := Aside0.mk (Kd.R_drew HO_203000.out)
            have n1_ := Aside0.mk (Kd.R_drew HO_203001.out)
            have n2_ := Aside0.mk (Kd.R_drew HO_210000.out)
            have n3_ := Aside0.mk (Kd.R_drew HO_210001.out)
            have n4_ := Aside0.mk (Kd.R_drew HO_218000.out)
            have n5_ := Aside0.mk (Kd.R_drew HO_218001.out)
            have n6_ := Aside0.mk (blk_drew BK187.out)
            have n7_ := Aside0.mk (blk_drew BK202.out)
            have n8_ := Aside0.mk (blk_drew BK209.out)
            have n9_ := Aside0.mk (blk_drew BK217.out)
            have n10_ := Aside0.mk (below_drew1 HB.out)
            clear HO_203000
            clear HO_203001
            clear HO_210000
            clear HO_210001
            clear HO_218000
            clear HO_218001
            clear BK187
            clear BK202
            clear BK209
            clear BK217
            clear HB
            have HO_203000 := n0_
            have HO_203001 := n1_
            have HO_210000 := n2_
            have HO_210001 := n3_
            have HO_218000 := n4_
            have HO_218001 := n5_
            have BK187 := n6_
            have BK202 := n7_
            have BK209 := n8_
            have BK217 := n9_
            have HB := n10_
            clear n0_ n1_ n2_ n3_ n4_ n5_ n6_ n7_ n8_ n9_ n10_
            refine start_ (n := 5) (S := fun w' => w'.cell? ⟨gb209, 0, none⟩ = some (.slice Ao30 t203.length co30) ∧ w'.cell? ⟨gb209, 1, none⟩ = some (.slice Ao34 t206.length co34) ∧ w'.cell? ⟨gb187, 0, none⟩ = some (.slice A0_0 l0_0.length c0_0) ∧ w'.cell? ⟨gb187, 1, none⟩ = some (.slice A0_1 l0_1.length c0_1)) (ds := []) #[false, false, false, false, false] (by kernel_rfl) rfl rfl ⟨(blk_cell BK209.out 0).trans rfl, (blk_cell BK209.out 1).trans rfl, (blk_cell BK187.out 0).trans rfl, (blk_cell BK187.out 1).trans rfl⟩ (fun hHeld => ?_)
            generalize wc.drew = w67 at HO_203000 HO_203001 HO_210000 HO_210001 HO_218000 HO_218001 BK187 BK202 BK209 BK217 HB hHeld ⊢
            refine take_ (i := 0) (N := some 49) (v := ?_) (a' := ?_) #[true, false, false, false, false] rfl rfl (by kernel_rfl) (fun _ _ _ h => h) (Or.inl ⟨by rfl, ?_⟩) hHeld ?_ ?_
            rotate_left
            · rintro w' ⟨s0, s1, s2, s3⟩
              go_simp
              with_reducible rfl
            rotate_left
            · simp only [Act.put, List.setIfInBounds_toArray, List.set_cons_zero, List.set_cons_succ, i64_w, i32_w]
              rfl
            refine take_ (i := 1) (N := some 50) (v := ?_) (a' := ?_) #[true, true, false, false, false] rfl rfl (by kernel_rfl) (fun _ _ _ h => h) (Or.inl ⟨by rfl, ?_⟩) hHeld ?_ ?_
            rotate_left
            · rintro w' ⟨s0, s1, s2, s3⟩
              go_simp
              with_reducible rfl
            rotate_left
            · simp only [Act.put, List.setIfInBounds_toArray, List.set_cons_zero, List.set_cons_succ, i64_w, i32_w]
              rfl
            refine one_ (i := 2) (N := some 51) #[true, true, true, false, false] rfl rfl (by kernel_rfl) (by decide) (fun K hK => ?_)
            refine goes_ Try.func17 (by kernel_rfl) rfl #[.agg #[.slice A0_0 l0_0.length c0_0, .slice A0_1 l0_1.length c0_1]] (by rfl) rfl rfl (by (try simp only [List.map_toArray, List.map_cons, List.map_nil]); first | done | rfl | (simp only [List.length_drop, List.length_take]; rfl)) ?_
            with_reducible refine (laws_toVessels.calls kj12 _ _ l0_0 _ _ l0_1 t219 t222 _ ?side1 ?side2 ?side3 ?side4 A62.out).mono ?_
            (case side1 => repeat (first | exact (Kd.C_below HR0_0.out HB.out) | (with_reducible refine Kd.C_alloc ?_ _) | (with_reducible refine Kd.C_drewN ?_ _) | (with_reducible refine Kd.C_drew ?_)))
            (case side2 => exact HC0_0.out)
            (case side3 => repeat (first | exact (Kd.C_below HR0_1.out HB.out) | (with_reducible refine Kd.C_alloc ?_ _) | (with_reducible refine Kd.C_drewN ?_ _) | (with_reducible refine Kd.C_drew ?_)))
            (case side4 => exact HC0_1.out)
            rintro e w68 ⟨v220, v223, rfl, ho0, ho1, hb⟩
            refine ⟨_, rfl, ?_⟩
            have n0_ := Aside0.mk (Kd.R_mono (Kd.R_told (Kd.R_told (Kd.R_old (xr HO_203000.out) hb) (Kd.R_base ho0)) (Kd.R_base ho1)) (fun _ h_ => h_.1))
            have n1_ := Aside0.mk (Kd.R_mono (Kd.R_told (Kd.R_told (Kd.R_old (xr HO_203001.out) hb) (Kd.R_base ho0)) (Kd.R_base ho1)) (fun _ h_ => h_.1))
            have n2_ := Aside0.mk (Kd.R_mono (Kd.R_told (Kd.R_told (Kd.R_old (xr HO_210000.out) hb) (Kd.R_base ho0)) (Kd.R_base ho1)) (fun _ h_ => h_.1))
            have n3_ := Aside0.mk (Kd.R_mono (Kd.R_told (Kd.R_told (Kd.R_old (xr HO_210001.out) hb) (Kd.R_base ho0)) (Kd.R_base ho1)) (fun _ h_ => h_.1))
            have n4_ := Aside0.mk (Kd.R_mono (Kd.R_told (Kd.R_told (Kd.R_old (xr HO_218000.out) hb) (Kd.R_base ho0)) (Kd.R_base ho1)) (fun _ h_ => h_.1))
            have n5_ := Aside0.mk (Kd.R_mono (Kd.R_told (Kd.R_told (Kd.R_old (xr HO_218001.out) hb) (Kd.R_base ho0)) (Kd.R_base ho1)) (fun _ h_ => h_.1))
            have n6_ := Aside0.mk (Kd.R_lower (Kd.R_new' (Kd.R_new' (Kd.R_new' (Kd.R_new' (Kd.R_new' (Kd.R_new' ho0 (Kd.R_lt (xr HO_203000.out))) (Kd.R_lt (xr HO_203001.out))) (Kd.R_lt (xr HO_210000.out))) (Kd.R_lt (xr HO_210001.out))) (Kd.R_lt (xr HO_218000.out))) (Kd.R_lt (xr HO_218001.out))) (below_size (xs HB.out)))
            have n7_ := Aside0.mk (Kd.R_lower (Kd.R_new' (Kd.R_new' (Kd.R_new' (Kd.R_new' (Kd.R_new' (Kd.R_new' ho1 (Kd.R_lt (xr HO_203000.out))) (Kd.R_lt (xr HO_203001.out))) (Kd.R_lt (xr HO_210000.out))) (Kd.R_lt (xr HO_210001.out))) (Kd.R_lt (xr HO_218000.out))) (Kd.R_lt (xr HO_218001.out))) (below_size (xs HB.out)))
            have n8_ := Aside0.mk (blk_below (g := gb187) (o := .cells #[.slice A0_0 l0_0.length c0_0, .slice A0_1 l0_1.length c0_1] 24 (0, 0)) (xb BK187.out) hb)
            have n9_ := Aside0.mk (blk_below (g := gb202) (o := .cells #[.slice Ao23 t195.length co23, .slice Ao26 t198.length co26] 26 (0, 0)) (xb BK202.out) hb)
            have n10_ := Aside0.mk (blk_below (g := gb209) (o := .cells #[.slice Ao30 t203.length co30, .slice Ao34 t206.length co34] 26 (0, 0)) (xb BK209.out) hb)
            have n11_ := Aside0.mk (blk_below (g := gb217) (o := .cells #[.slice Ao37 t210.length co37, .slice Ao42 t213.length co42] 26 (0, 0)) (xb BK217.out) hb)
            have n12_ := Aside0.mk (below_step (xs HB.out) hb)
            clear HO_203000
            clear HO_203001
            clear HO_210000
            clear HO_210001
            clear HO_218000
            clear HO_218001
            clear BK187
            clear BK202
            clear BK209
            clear BK217
            clear HB
            have HO_203000 := n0_
            have HO_203001 := n1_
            have HO_210000 := n2_
            have HO_210001 := n3_
            have HO_218000 := n4_
            have HO_218001 := n5_
            have HO221 := n6_
            have HO224 := n7_
            have BK187 := n8_
            have BK202 := n9_
            have BK209 := n10_
            have BK217 := n11_
            have HB := n12_
            clear n0_ n1_ n2_ n3_ n4_ n5_ n6_ n7_ n8_ n9_ n10_ n11_ n12_
            (try clear hb)
            (try clear hb2)
            (try clear hk)
            (try clear hi)
            (try clear ho0)
            (try clear ho1)
            obtain ⟨Ao69, co69, eo69⟩ := Kd.R_slice HO221.out
            (first | subst eo69 | (injection eo69 with f1_ f2_ f3_; have f4_ := f1_.symm; have f5_ := f3_.symm; clear f1_ f2_ f3_; subst f4_; subst f5_))
            obtain ⟨Ao70, co70, eo70⟩ := Kd.R_slice HO224.out
            (first | subst eo70 | (injection eo70 with f1_ f2_ f3_; have f4_ := f1_.symm; have f5_ := f3_.symm; clear f1_ f2_ f3_; subst f4_; subst f5_))
            refine hK.out _ _ ⟨(blk_cell BK209.out 0).trans rfl, (blk_cell BK209.out 1).trans rfl, (blk_cell BK187.out 0).trans rfl, (blk_cell BK187.out 1).trans rfl⟩ (fun hHeld => ?_)
            clear hK K
            refine norm_ (a' := ?_) ?_ ?_
            rotate_left
            · show Act.put _ (some 51) _ = _
              simp only [Act.put, List.setIfInBounds_toArray, List.set_cons_zero, List.set_cons_succ, i64_w, i32_w]
              rfl
            refine one_ (i := 3) (N := some 52) #[true, true, true, true, false] rfl rfl (by kernel_rfl) (by decide) (fun K hK => ?_)
            refine goes_ Try.func19 (by kernel_rfl) rfl #[.agg #[.slice Ao30 t203.length co30, .slice Ao34 t206.length co34], .agg #[.slice Ao69 t219.length co69, .slice Ao70 t222.length co70]] (by rfl) rfl rfl (by (try simp only [List.map_toArray, List.map_cons, List.map_nil]); first | done | rfl | (simp only [List.length_drop, List.length_take]; rfl)) ?_
            with_reducible refine (laws_eqVessels.calls kj12 _ _ t203 _ _ t206 _ _ t219 _ _ t222 true _ ?side1 ?side2 ?side3 ?side4 ?side5 ?side6 ?side7 ?side8 A63.out).mono ?_
            (case side1 => repeat (first | exact (Kd.R_reads' HO_210000.out).2.2 | (with_reducible refine Kd.C_alloc ?_ _) | (with_reducible refine Kd.C_drewN ?_ _) | (with_reducible refine Kd.C_drew ?_)))
            (case side2 => exact (Kd.R_reads' HO_210000.out).2.1)
            (case side3 => repeat (first | exact (Kd.R_reads' HO_210001.out).2.2 | (with_reducible refine Kd.C_alloc ?_ _) | (with_reducible refine Kd.C_drewN ?_ _) | (with_reducible refine Kd.C_drew ?_)))
            (case side4 => exact (Kd.R_reads' HO_210001.out).2.1)
            (case side5 => repeat (first | exact (Kd.R_reads' HO221.out).2.2 | (with_reducible refine Kd.C_alloc ?_ _) | (with_reducible refine Kd.C_drewN ?_ _) | (with_reducible refine Kd.C_drew ?_)))
            (case side6 => exact (Kd.R_reads' HO221.out).2.1)
            (case side7 => repeat (first | exact (Kd.R_reads' HO224.out).2.2 | (with_reducible refine Kd.C_alloc ?_ _) | (with_reducible refine Kd.C_drewN ?_ _) | (with_reducible refine Kd.C_drew ?_)))
            (case side8 => exact (Kd.R_reads' HO224.out).2.1)
            rintro e w71 ⟨rfl, hb⟩
            refine ⟨_, rfl, ?_⟩
            have n0_ := Aside0.mk (Kd.R_below (xr HO_203000.out) hb)
            have n1_ := Aside0.mk (Kd.R_below (xr HO_203001.out) hb)
            have n2_ := Aside0.mk (Kd.R_below (xr HO_210000.out) hb)
            have n3_ := Aside0.mk (Kd.R_below (xr HO_210001.out) hb)
            have n4_ := Aside0.mk (Kd.R_below (xr HO_218000.out) hb)
            have n5_ := Aside0.mk (Kd.R_below (xr HO_218001.out) hb)
            have n6_ := Aside0.mk (Kd.R_below (xr HO221.out) hb)
            have n7_ := Aside0.mk (Kd.R_below (xr HO224.out) hb)
            have n8_ := Aside0.mk (blk_below (g := gb187) (o := .cells #[.slice A0_0 l0_0.length c0_0, .slice A0_1 l0_1.length c0_1] 24 (0, 0)) (xb BK187.out) hb)
            have n9_ := Aside0.mk (blk_below (g := gb202) (o := .cells #[.slice Ao23 t195.length co23, .slice Ao26 t198.length co26] 26 (0, 0)) (xb BK202.out) hb)
            have n10_ := Aside0.mk (blk_below (g := gb209) (o := .cells #[.slice Ao30 t203.length co30, .slice Ao34 t206.length co34] 26 (0, 0)) (xb BK209.out) hb)
            have n11_ := Aside0.mk (blk_below (g := gb217) (o := .cells #[.slice Ao37 t210.length co37, .slice Ao42 t213.length co42] 26 (0, 0)) (xb BK217.out) hb)
            have n12_ := Aside0.mk (below_step (xs HB.out) hb)
            clear HO_203000
            clear HO_203001
            clear HO_210000
            clear HO_210001
            clear HO_218000
            clear HO_218001
            clear HO221
            clear HO224
            clear BK187
            clear BK202
            clear BK209
            clear BK217
            clear HB
            have HO_203000 := n0_
            have HO_203001 := n1_
            have HO_210000 := n2_
            have HO_210001 := n3_
            have HO_218000 := n4_
            have HO_218001 := n5_
            have HO221 := n6_
            have HO224 := n7_
            have BK187 := n8_
            have BK202 := n9_
            have BK209 := n10_
            have BK217 := n11_
            have HB := n12_
            clear n0_ n1_ n2_ n3_ n4_ n5_ n6_ n7_ n8_ n9_ n10_ n11_ n12_
            (try clear hb)
            (try clear hb2)
            (try clear hk)
            (try clear hi)
            refine hK.out _ _ ⟨(blk_cell BK209.out 0).trans rfl, (blk_cell BK209.out 1).trans rfl, (blk_cell BK187.out 0).trans rfl, (blk_cell BK187.out 1).trans rfl⟩ (fun hHeld => ?_)
            clear hK K
            refine norm_ (a' := ?_) ?_ ?_
            rotate_left
            · show Act.put _ (some 52) _ = _
              simp only [Act.put, List.setIfInBounds_toArray, List.set_cons_zero, List.set_cons_succ, i64_w, i32_w]
              rfl
            refine pure_ (i := 4) (N := some 53) (v := ?_) (a' := ?_) #[true, true, true, true, true] rfl rfl (by kernel_rfl) (fun _ _ _ h => h) (Or.inl ⟨by rfl, ?_⟩) ?_ ?_
            rotate_left
            · intro w'
              go_simp
              with_reducible rfl
            rotate_left
            · simp only [Act.put, List.setIfInBounds_toArray, List.set_cons_zero, List.set_cons_succ, i64_w, i32_w]
              rfl
            refine done_ (by kernel_rfl) ?_
            have hnb72 := NB209_187.out
            have hnc72 := NB187_209.out
            have hnb73 := NB209_202.out
            have hnc73 := NB202_209.out
            have hnb74 := NB209_217.out
            have hnc74 := NB217_209.out
            have hcz75_0 : w71.cell? ⟨gb209, 0, none⟩ = some (.slice Ao30 t203.length co30) := (blk_cell BK209.out 0).trans rfl
            have hcz75_1 : w71.cell? ⟨gb209, 1, none⟩ = some (.slice Ao34 t206.length co34) := (blk_cell BK209.out 1).trans rfl
            have hfz75_0 := blk_frozen BK209.out 0
            have hfz75_1 := blk_frozen BK209.out 1
            go_upto_region 14 with (first | ((with_reducible refine gate_callee (f := 20) rfl ?_); refine goesL_ (some 56) rfl rfl Try.func20 (by kernel_rfl) rfl #[.agg #[.slice Ao30 t203.length co30, .slice Ao34 t206.length co34], .int .i64 1] rfl (by (try simp only [List.map_toArray, List.map_cons, List.map_nil]); first | done | rfl | (simp only [List.length_drop, List.length_take]; rfl)) ?_; (with_reducible refine (laws_markVessels.calls kj12 (fun k_ => some k_ = (.slice Ao30 t203.length co30 : Value).ownBlock) (.slice Ao30 t203.length co30) t203 (fun k_ => some k_ = (.slice Ao34 t206.length co34 : Value).ownBlock) (.slice Ao34 t206.length co34) t206 1 t226 t227 t228 w _ ?side1 ?side2 ?side3 ?side4 ?side5 A65.out).mono ?_); (case side1 => repeat (first | (with_reducible first | exact HB.out | apply below_alloc | apply pw_below_drewN | apply below_drew1 | refine below_set ?_ GE187.out | refine below_set ?_ GE202.out | refine below_set ?_ GE209.out | refine below_set ?_ GE217.out) | exact HB.out)); (case side2 => exact Kd.R_tight rfl HO_210000.out); (case side3 => exact fun k_ e_ => (HO_210000.out.1 k_ e_.symm).1.1.2.2.1); (case side4 => exact Kd.R_tight rfl HO_210001.out); (case side5 => exact fun k_ e_ => (HO_210001.out.1 k_ e_.symm).1.1.2.2.1); rintro e w76 ⟨rfl, hy0, hy1, hb, hkp⟩; refine ⟨_, rfl, ?_⟩; have n0_ := Aside0.mk (Kd.R_mono (ok' := fun k_ => some k_ ≠ (.slice Ao26 t198.length co26 : Value).ownBlock ∧ some k_ ≠ (.slice Ao30 t203.length co30 : Value).ownBlock ∧ some k_ ≠ (.slice Ao34 t206.length co34 : Value).ownBlock ∧ some k_ ≠ (.slice Ao37 t210.length co37 : Value).ownBlock ∧ some k_ ≠ (.slice Ao42 t213.length co42 : Value).ownBlock ∧ some k_ ≠ (.slice Ao69 t219.length co69 : Value).ownBlock ∧ some k_ ≠ (.slice Ao70 t222.length co70 : Value).ownBlock) (Kd.R_keptB (HO_203000.out) hkp (fun k_ hk_ hs_ => Or.elim hs_ (fun e_ => (hk_.1.1.2.1) e_) (fun e_ => (hk_.1.1.2.2.1) e_))) (fun k_ hk_ => ⟨hk_.1.1.1.1, hk_.1.1.1.2.1, hk_.1.1.1.2.2.1, hk_.1.1.1.2.2.2.1, hk_.1.1.1.2.2.2.2, hk_.1.1.2, hk_.1.2⟩)); have n1_ := Aside0.mk (Kd.R_mono (ok' := fun k_ => some k_ ≠ (.slice Ao23 t195.length co23 : Value).ownBlock ∧ some k_ ≠ (.slice Ao30 t203.length co30 : Value).ownBlock ∧ some k_ ≠ (.slice Ao34 t206.length co34 : Value).ownBlock ∧ some k_ ≠ (.slice Ao37 t210.length co37 : Value).ownBlock ∧ some k_ ≠ (.slice Ao42 t213.length co42 : Value).ownBlock ∧ some k_ ≠ (.slice Ao69 t219.length co69 : Value).ownBlock ∧ some k_ ≠ (.slice Ao70 t222.length co70 : Value).ownBlock) (Kd.R_keptB (HO_203001.out) hkp (fun k_ hk_ hs_ => Or.elim hs_ (fun e_ => (hk_.1.1.2.1) e_) (fun e_ => (hk_.1.1.2.2.1) e_))) (fun k_ hk_ => ⟨hk_.1.1.1.1, hk_.1.1.1.2.1, hk_.1.1.1.2.2.1, hk_.1.1.1.2.2.2.1, hk_.1.1.1.2.2.2.2, hk_.1.1.2, hk_.1.2⟩)); have n2_ := Aside0.mk (Kd.R_reok rfl hy0 (fun k_ e_ => HO_210000.out.1 k_ e_)); have n3_ := Aside0.mk (Kd.R_reok rfl hy1 (fun k_ e_ => HO_210001.out.1 k_ e_)); have n4_ := Aside0.mk (Kd.R_mono (ok' := fun k_ => some k_ ≠ (.slice Ao23 t195.length co23 : Value).ownBlock ∧ some k_ ≠ (.slice Ao26 t198.length co26 : Value).ownBlock ∧ some k_ ≠ (.slice Ao30 t203.length co30 : Value).ownBlock ∧ some k_ ≠ (.slice Ao34 t206.length co34 : Value).ownBlock ∧ some k_ ≠ (.slice Ao42 t213.length co42 : Value).ownBlock ∧ some k_ ≠ (.slice Ao69 t219.length co69 : Value).ownBlock ∧ some k_ ≠ (.slice Ao70 t222.length co70 : Value).ownBlock) (Kd.R_keptB (HO_218000.out) hkp (fun k_ hk_ hs_ => Or.elim hs_ (fun e_ => (hk_.1.1.2.2.1) e_) (fun e_ => (hk_.1.1.2.2.2.1) e_))) (fun k_ hk_ => ⟨hk_.1.1.1.1, hk_.1.1.1.2.1, hk_.1.1.1.2.2.1, hk_.1.1.1.2.2.2.1, hk_.1.1.1.2.2.2.2, hk_.1.1.2, hk_.1.2⟩)); have n5_ := Aside0.mk (Kd.R_mono (ok' := fun k_ => some k_ ≠ (.slice Ao23 t195.length co23 : Value).ownBlock ∧ some k_ ≠ (.slice Ao26 t198.length co26 : Value).ownBlock ∧ some k_ ≠ (.slice Ao30 t203.length co30 : Value).ownBlock ∧ some k_ ≠ (.slice Ao34 t206.length co34 : Value).ownBlock ∧ some k_ ≠ (.slice Ao37 t210.length co37 : Value).ownBlock ∧ some k_ ≠ (.slice Ao69 t219.length co69 : Value).ownBlock ∧ some k_ ≠ (.slice Ao70 t222.length co70 : Value).ownBlock) (Kd.R_keptB (HO_218001.out) hkp (fun k_ hk_ hs_ => Or.elim hs_ (fun e_ => (hk_.1.1.2.2.1) e_) (fun e_ => (hk_.1.1.2.2.2.1) e_))) (fun k_ hk_ => ⟨hk_.1.1.1.1, hk_.1.1.1.2.1, hk_.1.1.1.2.2.1, hk_.1.1.1.2.2.2.1, hk_.1.1.1.2.2.2.2, hk_.1.1.2, hk_.1.2⟩)); have n6_ := Aside0.mk (blk_kept (xb BK187.out) hkp (fun hs_ => Or.elim hs_ (fun e_ => (fun e_ => (Kd.R_ne HO_210000.out BK187.out (by decide)) e_) e_) (fun e_ => (fun e_ => (Kd.R_ne HO_210001.out BK187.out (by decide)) e_) e_))); have n7_ := Aside0.mk (blk_kept (xb BK202.out) hkp (fun hs_ => Or.elim hs_ (fun e_ => (fun e_ => (Kd.R_ne HO_210000.out BK202.out (by decide)) e_) e_) (fun e_ => (fun e_ => (Kd.R_ne HO_210001.out BK202.out (by decide)) e_) e_))); have n8_ := Aside0.mk (blk_kept (xb BK209.out) hkp (fun hs_ => Or.elim hs_ (fun e_ => (fun e_ => (Kd.R_ne HO_210000.out BK209.out (by decide)) e_) e_) (fun e_ => (fun e_ => (Kd.R_ne HO_210001.out BK209.out (by decide)) e_) e_))); have n9_ := Aside0.mk (blk_kept (xb BK217.out) hkp (fun hs_ => Or.elim hs_ (fun e_ => (fun e_ => (Kd.R_ne HO_210000.out BK217.out (by decide)) e_) e_) (fun e_ => (fun e_ => (Kd.R_ne HO_210001.out BK217.out (by decide)) e_) e_))); have n10_ := Aside0.mk (Kd.R_mono (ok' := fun k_ => some k_ ≠ (.slice Ao23 t195.length co23 : Value).ownBlock ∧ some k_ ≠ (.slice Ao26 t198.length co26 : Value).ownBlock ∧ some k_ ≠ (.slice Ao30 t203.length co30 : Value).ownBlock ∧ some k_ ≠ (.slice Ao34 t206.length co34 : Value).ownBlock ∧ some k_ ≠ (.slice Ao37 t210.length co37 : Value).ownBlock ∧ some k_ ≠ (.slice Ao42 t213.length co42 : Value).ownBlock ∧ some k_ ≠ (.slice Ao70 t222.length co70 : Value).ownBlock) (Kd.R_keptB (HO221.out) hkp (fun k_ hk_ hs_ => Or.elim hs_ (fun e_ => (hk_.1.1.1.2) e_) (fun e_ => (hk_.1.1.2) e_))) (fun k_ hk_ => ⟨hk_.1.1.1.1.1.1.2, hk_.1.1.1.1.1.2, hk_.1.1.1.1.2, hk_.1.1.1.2, hk_.1.1.2, hk_.1.2, hk_.1.1.1.1.1.1.1⟩)); have n11_ := Aside0.mk (Kd.R_mono (ok' := fun k_ => some k_ ≠ (.slice Ao23 t195.length co23 : Value).ownBlock ∧ some k_ ≠ (.slice Ao26 t198.length co26 : Value).ownBlock ∧ some k_ ≠ (.slice Ao30 t203.length co30 : Value).ownBlock ∧ some k_ ≠ (.slice Ao34 t206.length co34 : Value).ownBlock ∧ some k_ ≠ (.slice Ao37 t210.length co37 : Value).ownBlock ∧ some k_ ≠ (.slice Ao42 t213.length co42 : Value).ownBlock ∧ some k_ ≠ (.slice Ao69 t219.length co69 : Value).ownBlock) (Kd.R_keptB (HO224.out) hkp (fun k_ hk_ hs_ => Or.elim hs_ (fun e_ => (hk_.1.1.1.2) e_) (fun e_ => (hk_.1.1.2) e_))) (fun k_ hk_ => ⟨hk_.1.1.1.1.1.1.2, hk_.1.1.1.1.1.2, hk_.1.1.1.1.2, hk_.1.1.1.2, hk_.1.1.2, hk_.1.2, hk_.1.1.1.1.1.1.1⟩)); have n12_ := Aside0.mk (hb); clear HO_203000; clear HO_203001; clear HO_210000; clear HO_210001; clear HO_218000; clear HO_218001; clear BK187; clear BK202; clear BK209; clear BK217; clear HO221; clear HO224; clear HB; have HO_203000 := n0_; have HO_203001 := n1_; have HO_210000 := n2_; have HO_210001 := n3_; have HO_218000 := n4_; have HO_218001 := n5_; have BK187 := n6_; have BK202 := n7_; have BK209 := n8_; have BK217 := n9_; have HO221 := n10_; have HO224 := n11_; have HB := n12_; clear n0_ n1_ n2_ n3_ n4_ n5_ n6_ n7_ n8_ n9_ n10_ n11_ n12_; (try clear hb); (try clear hkp); (try clear hy0); (try clear hy1)))
            (try simp only [Act.put, List.setIfInBounds_toArray, List.set_cons_zero, List.set_cons_succ])
            go_cut [69] (fun v69 wc => ∃ (kq : Nat) (x69_65 : Bool), v69 = .bool x69_65 ∧ Aside0 (laws_FnExactSwapVessels.j1 kq a1 a2 t201 x69_65 l0_0 l0_1 t195 t198 t210 t213 = some true) ∧ Aside0 (kq ≤ kj12) ∧ Aside0 (Kd.R (Kd.int .i64) 3 wc w.heap.size (fun k_ => some k_ ≠ ((.slice Ao26 t198.length co26) : Value).ownBlock ∧ some k_ ≠ ((.slice Ao30 t203.length co30) : Value).ownBlock ∧ some k_ ≠ ((.slice Ao34 t206.length co34) : Value).ownBlock ∧ some k_ ≠ ((.slice Ao37 t210.length co37) : Value).ownBlock ∧ some k_ ≠ ((.slice Ao42 t213.length co42) : Value).ownBlock) (.slice Ao23 t195.length co23) t195) ∧ Aside0 (Kd.R (Kd.int .i64) 3 wc w.heap.size (fun k_ => some k_ ≠ ((.slice Ao23 t195.length co23) : Value).ownBlock ∧ some k_ ≠ ((.slice Ao30 t203.length co30) : Value).ownBlock ∧ some k_ ≠ ((.slice Ao34 t206.length co34) : Value).ownBlock ∧ some k_ ≠ ((.slice Ao37 t210.length co37) : Value).ownBlock ∧ some k_ ≠ ((.slice Ao42 t213.length co42) : Value).ownBlock) (.slice Ao26 t198.length co26) t198) ∧ Aside0 (Kd.R (Kd.int .i64) 3 wc w.heap.size (fun k_ => some k_ ≠ ((.slice Ao23 t195.length co23) : Value).ownBlock ∧ some k_ ≠ ((.slice Ao26 t198.length co26) : Value).ownBlock ∧ some k_ ≠ ((.slice Ao34 t206.length co34) : Value).ownBlock ∧ some k_ ≠ ((.slice Ao37 t210.length co37) : Value).ownBlock ∧ some k_ ≠ ((.slice Ao42 t213.length co42) : Value).ownBlock) (.slice Ao30 t203.length co30) t227) ∧ Aside0 (Kd.R (Kd.int .i64) 3 wc w.heap.size (fun k_ => some k_ ≠ ((.slice Ao23 t195.length co23) : Value).ownBlock ∧ some k_ ≠ ((.slice Ao26 t198.length co26) : Value).ownBlock ∧ some k_ ≠ ((.slice Ao30 t203.length co30) : Value).ownBlock ∧ some k_ ≠ ((.slice Ao37 t210.length co37) : Value).ownBlock ∧ some k_ ≠ ((.slice Ao42 t213.length co42) : Value).ownBlock) (.slice Ao34 t206.length co34) t228) ∧ Aside0 (Kd.R (Kd.int .i64) 3 wc w.heap.size (fun k_ => some k_ ≠ ((.slice Ao23 t195.length co23) : Value).ownBlock ∧ some k_ ≠ ((.slice Ao26 t198.length co26) : Value).ownBlock ∧ some k_ ≠ ((.slice Ao30 t203.length co30) : Value).ownBlock ∧ some k_ ≠ ((.slice Ao34 t206.length co34) : Value).ownBlock ∧ some k_ ≠ ((.slice Ao42 t213.length co42) : Value).ownBlock) (.slice Ao37 t210.length co37) t210) ∧ Aside0 (Kd.R (Kd.int .i64) 3 wc w.heap.size (fun k_ => some k_ ≠ ((.slice Ao23 t195.length co23) : Value).ownBlock ∧ some k_ ≠ ((.slice Ao26 t198.length co26) : Value).ownBlock ∧ some k_ ≠ ((.slice Ao30 t203.length co30) : Value).ownBlock ∧ some k_ ≠ ((.slice Ao34 t206.length co34) : Value).ownBlock ∧ some k_ ≠ ((.slice Ao37 t210.length co37) : Value).ownBlock) (.slice Ao42 t213.length co42) t213) ∧ Aside0 (wc.heap[gb187]? = some (.cells #[(.slice A0_0 l0_0.length c0_0), (.slice A0_1 l0_1.length c0_1)] 24 (0, 0))) ∧ Aside0 (wc.heap[gb202]? = some (.cells #[(.slice Ao23 t195.length co23), (.slice Ao26 t198.length co26)] 26 (0, 0))) ∧ Aside0 (wc.heap[gb209]? = some (.cells #[(.slice Ao30 t203.length co30), (.slice Ao34 t206.length co34)] 26 (0, 0))) ∧ Aside0 (wc.heap[gb217]? = some (.cells #[(.slice Ao37 t210.length co37), (.slice Ao42 t213.length co42)] 26 (0, 0))) ∧ Aside0 (Below w.heap.size w wc))
            case first =>
              have H := HC66.out
              clear HC66
              by_cases c77 : t226 < 0
              · rw [if_pos c77] at H
                have c77b0 : decide (t226 < 0) = true := decide_eq_true c77
                clear c77
                (first | rw [c77b0] | (simp only [i64_w, i32_w]; rw [c77b0]) | skip)
                have H' := Aside0.mk H
                clear H
                go_wp2
                go_meet
                case rel => exact ⟨_, (true), (by first | rfl | (simp; done) | (simp [*]; done)), H', ⟨by have := HJ12.out; first | omega | exact Nat.le_refl _⟩, ⟨by (with_reducible repeat (first | apply Kd.R_alloc | apply Kd.R_drewN | apply Kd.R_drew)); exact Kd.R_mono HO_203000.out (fun _ hk => ⟨hk.1, ⟨hk.2.1, ⟨hk.2.2.1, ⟨hk.2.2.2.1, hk.2.2.2.2.1⟩⟩⟩⟩)⟩, ⟨by (with_reducible repeat (first | apply Kd.R_alloc | apply Kd.R_drewN | apply Kd.R_drew)); exact Kd.R_mono HO_203001.out (fun _ hk => ⟨hk.1, ⟨hk.2.1, ⟨hk.2.2.1, ⟨hk.2.2.2.1, hk.2.2.2.2.1⟩⟩⟩⟩)⟩, ⟨by (with_reducible repeat (first | apply Kd.R_alloc | apply Kd.R_drewN | apply Kd.R_drew)); exact Kd.R_mono HO_210000.out (fun _ hk => ⟨hk.1.1.1, ⟨hk.1.1.2.1, ⟨hk.1.1.2.2.1, ⟨hk.1.1.2.2.2.1, hk.1.1.2.2.2.2⟩⟩⟩⟩)⟩, ⟨by (with_reducible repeat (first | apply Kd.R_alloc | apply Kd.R_drewN | apply Kd.R_drew)); exact Kd.R_mono HO_210001.out (fun _ hk => ⟨hk.1.1.1, ⟨hk.1.1.2.1, ⟨hk.1.1.2.2.1, ⟨hk.1.1.2.2.2.1, hk.1.1.2.2.2.2⟩⟩⟩⟩)⟩, ⟨by (with_reducible repeat (first | apply Kd.R_alloc | apply Kd.R_drewN | apply Kd.R_drew)); exact Kd.R_mono HO_218000.out (fun _ hk => ⟨hk.1, ⟨hk.2.1, ⟨hk.2.2.1, ⟨hk.2.2.2.1, hk.2.2.2.2.1⟩⟩⟩⟩)⟩, ⟨by (with_reducible repeat (first | apply Kd.R_alloc | apply Kd.R_drewN | apply Kd.R_drew)); exact Kd.R_mono HO_218001.out (fun _ hk => ⟨hk.1, ⟨hk.2.1, ⟨hk.2.2.1, ⟨hk.2.2.2.1, hk.2.2.2.2.1⟩⟩⟩⟩)⟩, ⟨xb BK187.out⟩, ⟨xb BK202.out⟩, ⟨xb BK209.out⟩, ⟨xb BK217.out⟩, ⟨xs HB.out⟩⟩
              · rw [if_neg c77] at H
                have c77b0 : decide (t226 < 0) = false := decide_eq_false c77
                clear c77
                (first | rw [c77b0] | (simp only [i64_w, i32_w]; rw [c77b0]) | skip)
                replace H := Option.bind_eq_some_iff.mp H
                obtain ⟨t229, A780, H⟩ := H
                replace H : (if t229 = true then (laws_FnExactSwapVessels.j1 kj12 a1 a2 t201 (t216 != t201) l0_0 l0_1 t195 t198 t210 t213) else (laws_FnExactSwapVessels.j1 kj12 a1 a2 t201 true l0_0 l0_1 t195 t198 t210 t213)) = some true := H
                have A78 := Aside0.mk A780
                clear A780
                by_cases c79 : t229 = true
                · subst c79
                  have H1 : (laws_FnExactSwapVessels.j1 kj12 a1 a2 t201 (t216 != t201) l0_0 l0_1 t195 t198 t210 t213) = some true := by first | (rw [if_pos rfl] at H; exact H) | rfl
                  clear H
                  have H := H1
                  clear H1
                  have H' := Aside0.mk H
                  clear H
                  have hnb80 := NB217_187.out
                  have hnc80 := NB187_217.out
                  have hnb81 := NB217_202.out
                  have hnc81 := NB202_217.out
                  have hnb82 := NB217_209.out
                  have hnc82 := NB209_217.out
                  have hcz83_0 : w76.cell? ⟨gb217, 0, none⟩ = some (.slice Ao37 t210.length co37) := (blk_cell BK217.out 0).trans rfl
                  have hcz83_1 : w76.cell? ⟨gb217, 1, none⟩ = some (.slice Ao42 t213.length co42) := (blk_cell BK217.out 1).trans rfl
                  have hfz83_0 := blk_frozen BK217.out 0
                  have hfz83_1 := blk_frozen BK217.out 1
                  have hnb84 := NB202_187.out
                  have hnc84 := NB187_202.out
                  have hnb85 := NB202_209.out
                  have hnc85 := NB209_202.out
                  have hcz86_0 : w76.cell? ⟨gb202, 0, none⟩ = some (.slice Ao23 t195.length co23) := (blk_cell BK202.out 0).trans rfl
                  have hcz86_1 : w76.cell? ⟨gb202, 1, none⟩ = some (.slice Ao26 t198.length co26) := (blk_cell BK202.out 1).trans rfl
                  have hfz86_0 := blk_frozen BK202.out 0
                  have hfz86_1 := blk_frozen BK202.out 1
                  go_wp2_with (first | (go_at_call 19; (with_reducible refine (laws_eqVessels.calls kj12 _ _ t210 _ _ t213 _ _ t195 _ _ t198 true _ ?side1 ?side2 ?side3 ?side4 ?side5 ?side6 ?side7 ?side8 A78.out).mono ?_); (case side1 => repeat (first | exact (Kd.R_reads' HO_218000.out).2.2 | (with_reducible refine Kd.C_alloc ?_ _) | (with_reducible refine Kd.C_drewN ?_ _) | (with_reducible refine Kd.C_drew ?_))); (case side2 => exact (Kd.R_reads' HO_218000.out).2.1); (case side3 => repeat (first | exact (Kd.R_reads' HO_218001.out).2.2 | (with_reducible refine Kd.C_alloc ?_ _) | (with_reducible refine Kd.C_drewN ?_ _) | (with_reducible refine Kd.C_drew ?_))); (case side4 => exact (Kd.R_reads' HO_218001.out).2.1); (case side5 => repeat (first | exact (Kd.R_reads' HO_203000.out).2.2 | (with_reducible refine Kd.C_alloc ?_ _) | (with_reducible refine Kd.C_drewN ?_ _) | (with_reducible refine Kd.C_drew ?_))); (case side6 => exact (Kd.R_reads' HO_203000.out).2.1); (case side7 => repeat (first | exact (Kd.R_reads' HO_203001.out).2.2 | (with_reducible refine Kd.C_alloc ?_ _) | (with_reducible refine Kd.C_drewN ?_ _) | (with_reducible refine Kd.C_drew ?_))); (case side8 => exact (Kd.R_reads' HO_203001.out).2.1); rintro e w87 ⟨rfl, hb⟩; have n0_ := Aside0.mk (Kd.R_below (xr HO_203000.out) hb); have n1_ := Aside0.mk (Kd.R_below (xr HO_203001.out) hb); have n2_ := Aside0.mk (Kd.R_below (xr HO_210000.out) hb); have n3_ := Aside0.mk (Kd.R_below (xr HO_210001.out) hb); have n4_ := Aside0.mk (Kd.R_below (xr HO_218000.out) hb); have n5_ := Aside0.mk (Kd.R_below (xr HO_218001.out) hb); have n6_ := Aside0.mk (Kd.R_below (xr HO221.out) hb); have n7_ := Aside0.mk (Kd.R_below (xr HO224.out) hb); have n8_ := Aside0.mk (blk_below (g := gb187) (o := .cells #[.slice A0_0 l0_0.length c0_0, .slice A0_1 l0_1.length c0_1] 24 (0, 0)) (xb BK187.out) hb); have n9_ := Aside0.mk (blk_below (g := gb202) (o := .cells #[.slice Ao23 t195.length co23, .slice Ao26 t198.length co26] 26 (0, 0)) (xb BK202.out) hb); have n10_ := Aside0.mk (blk_below (g := gb209) (o := .cells #[.slice Ao30 t203.length co30, .slice Ao34 t206.length co34] 26 (0, 0)) (xb BK209.out) hb); have n11_ := Aside0.mk (blk_below (g := gb217) (o := .cells #[.slice Ao37 t210.length co37, .slice Ao42 t213.length co42] 26 (0, 0)) (xb BK217.out) hb); have n12_ := Aside0.mk (below_step (xs HB.out) hb); clear HO_203000; clear HO_203001; clear HO_210000; clear HO_210001; clear HO_218000; clear HO_218001; clear HO221; clear HO224; clear BK187; clear BK202; clear BK209; clear BK217; clear HB; have HO_203000 := n0_; have HO_203001 := n1_; have HO_210000 := n2_; have HO_210001 := n3_; have HO_218000 := n4_; have HO_218001 := n5_; have HO221 := n6_; have HO224 := n7_; have BK187 := n8_; have BK202 := n9_; have BK209 := n10_; have BK217 := n11_; have HB := n12_; clear n0_ n1_ n2_ n3_ n4_ n5_ n6_ n7_ n8_ n9_ n10_ n11_ n12_; (try clear hb); (try clear hb2); (try clear hk); (try clear hi)))
                  go_meet
                  case rel => exact ⟨_, ((t216 != t201)), (by first | rfl | (simp; done) | (simp [*]; done)), H', ⟨by have := HJ12.out; first | omega | exact Nat.le_refl _⟩, ⟨by (with_reducible repeat (first | apply Kd.R_alloc | apply Kd.R_drewN | apply Kd.R_drew)); exact Kd.R_mono HO_203000.out (fun _ hk => ⟨hk.1, ⟨hk.2.1, ⟨hk.2.2.1, ⟨hk.2.2.2.1, hk.2.2.2.2.1⟩⟩⟩⟩)⟩, ⟨by (with_reducible repeat (first | apply Kd.R_alloc | apply Kd.R_drewN | apply Kd.R_drew)); exact Kd.R_mono HO_203001.out (fun _ hk => ⟨hk.1, ⟨hk.2.1, ⟨hk.2.2.1, ⟨hk.2.2.2.1, hk.2.2.2.2.1⟩⟩⟩⟩)⟩, ⟨by (with_reducible repeat (first | apply Kd.R_alloc | apply Kd.R_drewN | apply Kd.R_drew)); exact Kd.R_mono HO_210000.out (fun _ hk => ⟨hk.1.1.1, ⟨hk.1.1.2.1, ⟨hk.1.1.2.2.1, ⟨hk.1.1.2.2.2.1, hk.1.1.2.2.2.2⟩⟩⟩⟩)⟩, ⟨by (with_reducible repeat (first | apply Kd.R_alloc | apply Kd.R_drewN | apply Kd.R_drew)); exact Kd.R_mono HO_210001.out (fun _ hk => ⟨hk.1.1.1, ⟨hk.1.1.2.1, ⟨hk.1.1.2.2.1, ⟨hk.1.1.2.2.2.1, hk.1.1.2.2.2.2⟩⟩⟩⟩)⟩, ⟨by (with_reducible repeat (first | apply Kd.R_alloc | apply Kd.R_drewN | apply Kd.R_drew)); exact Kd.R_mono HO_218000.out (fun _ hk => ⟨hk.1, ⟨hk.2.1, ⟨hk.2.2.1, ⟨hk.2.2.2.1, hk.2.2.2.2.1⟩⟩⟩⟩)⟩, ⟨by (with_reducible repeat (first | apply Kd.R_alloc | apply Kd.R_drewN | apply Kd.R_drew)); exact Kd.R_mono HO_218001.out (fun _ hk => ⟨hk.1, ⟨hk.2.1, ⟨hk.2.2.1, ⟨hk.2.2.2.1, hk.2.2.2.2.1⟩⟩⟩⟩)⟩, ⟨xb BK187.out⟩, ⟨xb BK202.out⟩, ⟨xb BK209.out⟩, ⟨xb BK217.out⟩, ⟨xs HB.out⟩⟩
                · replace c79 := Bool.eq_false_iff.mpr c79
                  subst c79
                  have H1 : (laws_FnExactSwapVessels.j1 kj12 a1 a2 t201 true l0_0 l0_1 t195 t198 t210 t213) = some true := by first | (rw [if_neg (show ¬ (false = true) by decide)] at H; exact H) | rfl
                  clear H
                  have H := H1
                  clear H1
                  have H' := Aside0.mk H
                  clear H
                  have hnb88 := NB217_187.out
                  have hnc88 := NB187_217.out
                  have hnb89 := NB217_202.out
                  have hnc89 := NB202_217.out
                  have hnb90 := NB217_209.out
                  have hnc90 := NB209_217.out
                  have hcz91_0 : w76.cell? ⟨gb217, 0, none⟩ = some (.slice Ao37 t210.length co37) := (blk_cell BK217.out 0).trans rfl
                  have hcz91_1 : w76.cell? ⟨gb217, 1, none⟩ = some (.slice Ao42 t213.length co42) := (blk_cell BK217.out 1).trans rfl
                  have hfz91_0 := blk_frozen BK217.out 0
                  have hfz91_1 := blk_frozen BK217.out 1
                  have hnb92 := NB202_187.out
                  have hnc92 := NB187_202.out
                  have hnb93 := NB202_209.out
                  have hnc93 := NB209_202.out
                  have hcz94_0 : w76.cell? ⟨gb202, 0, none⟩ = some (.slice Ao23 t195.length co23) := (blk_cell BK202.out 0).trans rfl
                  have hcz94_1 : w76.cell? ⟨gb202, 1, none⟩ = some (.slice Ao26 t198.length co26) := (blk_cell BK202.out 1).trans rfl
                  have hfz94_0 := blk_frozen BK202.out 0
                  have hfz94_1 := blk_frozen BK202.out 1
                  go_wp2_with (first | (go_at_call 19; (with_reducible refine (laws_eqVessels.calls kj12 _ _ t210 _ _ t213 _ _ t195 _ _ t198 false _ ?side1 ?side2 ?side3 ?side4 ?side5 ?side6 ?side7 ?side8 A78.out).mono ?_); (case side1 => repeat (first | exact (Kd.R_reads' HO_218000.out).2.2 | (with_reducible refine Kd.C_alloc ?_ _) | (with_reducible refine Kd.C_drewN ?_ _) | (with_reducible refine Kd.C_drew ?_))); (case side2 => exact (Kd.R_reads' HO_218000.out).2.1); (case side3 => repeat (first | exact (Kd.R_reads' HO_218001.out).2.2 | (with_reducible refine Kd.C_alloc ?_ _) | (with_reducible refine Kd.C_drewN ?_ _) | (with_reducible refine Kd.C_drew ?_))); (case side4 => exact (Kd.R_reads' HO_218001.out).2.1); (case side5 => repeat (first | exact (Kd.R_reads' HO_203000.out).2.2 | (with_reducible refine Kd.C_alloc ?_ _) | (with_reducible refine Kd.C_drewN ?_ _) | (with_reducible refine Kd.C_drew ?_))); (case side6 => exact (Kd.R_reads' HO_203000.out).2.1); (case side7 => repeat (first | exact (Kd.R_reads' HO_203001.out).2.2 | (with_reducible refine Kd.C_alloc ?_ _) | (with_reducible refine Kd.C_drewN ?_ _) | (with_reducible refine Kd.C_drew ?_))); (case side8 => exact (Kd.R_reads' HO_203001.out).2.1); rintro e w95 ⟨rfl, hb⟩; have n0_ := Aside0.mk (Kd.R_below (xr HO_203000.out) hb); have n1_ := Aside0.mk (Kd.R_below (xr HO_203001.out) hb); have n2_ := Aside0.mk (Kd.R_below (xr HO_210000.out) hb); have n3_ := Aside0.mk (Kd.R_below (xr HO_210001.out) hb); have n4_ := Aside0.mk (Kd.R_below (xr HO_218000.out) hb); have n5_ := Aside0.mk (Kd.R_below (xr HO_218001.out) hb); have n6_ := Aside0.mk (Kd.R_below (xr HO221.out) hb); have n7_ := Aside0.mk (Kd.R_below (xr HO224.out) hb); have n8_ := Aside0.mk (blk_below (g := gb187) (o := .cells #[.slice A0_0 l0_0.length c0_0, .slice A0_1 l0_1.length c0_1] 24 (0, 0)) (xb BK187.out) hb); have n9_ := Aside0.mk (blk_below (g := gb202) (o := .cells #[.slice Ao23 t195.length co23, .slice Ao26 t198.length co26] 26 (0, 0)) (xb BK202.out) hb); have n10_ := Aside0.mk (blk_below (g := gb209) (o := .cells #[.slice Ao30 t203.length co30, .slice Ao34 t206.length co34] 26 (0, 0)) (xb BK209.out) hb); have n11_ := Aside0.mk (blk_below (g := gb217) (o := .cells #[.slice Ao37 t210.length co37, .slice Ao42 t213.length co42] 26 (0, 0)) (xb BK217.out) hb); have n12_ := Aside0.mk (below_step (xs HB.out) hb); clear HO_203000; clear HO_203001; clear HO_210000; clear HO_210001; clear HO_218000; clear HO_218001; clear HO221; clear HO224; clear BK187; clear BK202; clear BK209; clear BK217; clear HB; have HO_203000 := n0_; have HO_203001 := n1_; have HO_210000 := n2_; have HO_210001 := n3_; have HO_218000 := n4_; have HO_218001 := n5_; have HO221 := n6_; have HO224 := n7_; have BK187 := n8_; have BK202 := n9_; have BK209 := n10_; have BK217 := n11_; have HB := n12_; clear n0_ n1_ n2_ n3_ n4_ n5_ n6_ n7_ n8_ n9_ n10_ n11_ n12_; (try clear hb); (try clear hb2); (try clear hk); (try clear hi)))
                  go_meet
                  case rel => exact ⟨_, (true), (by first | rfl | (simp; done) | (simp [*]; done)), H', ⟨by have := HJ12.out; first | omega | exact Nat.le_refl _⟩, ⟨by (with_reducible repeat (first | apply Kd.R_alloc | apply Kd.R_drewN | apply Kd.R_drew)); exact Kd.R_mono HO_203000.out (fun _ hk => ⟨hk.1, ⟨hk.2.1, ⟨hk.2.2.1, ⟨hk.2.2.2.1, hk.2.2.2.2.1⟩⟩⟩⟩)⟩, ⟨by (with_reducible repeat (first | apply Kd.R_alloc | apply Kd.R_drewN | apply Kd.R_drew)); exact Kd.R_mono HO_203001.out (fun _ hk => ⟨hk.1, ⟨hk.2.1, ⟨hk.2.2.1, ⟨hk.2.2.2.1, hk.2.2.2.2.1⟩⟩⟩⟩)⟩, ⟨by (with_reducible repeat (first | apply Kd.R_alloc | apply Kd.R_drewN | apply Kd.R_drew)); exact Kd.R_mono HO_210000.out (fun _ hk => ⟨hk.1.1.1, ⟨hk.1.1.2.1, ⟨hk.1.1.2.2.1, ⟨hk.1.1.2.2.2.1, hk.1.1.2.2.2.2⟩⟩⟩⟩)⟩, ⟨by (with_reducible repeat (first | apply Kd.R_alloc | apply Kd.R_drewN | apply Kd.R_drew)); exact Kd.R_mono HO_210001.out (fun _ hk => ⟨hk.1.1.1, ⟨hk.1.1.2.1, ⟨hk.1.1.2.2.1, ⟨hk.1.1.2.2.2.1, hk.1.1.2.2.2.2⟩⟩⟩⟩)⟩, ⟨by (with_reducible repeat (first | apply Kd.R_alloc | apply Kd.R_drewN | apply Kd.R_drew)); exact Kd.R_mono HO_218000.out (fun _ hk => ⟨hk.1, ⟨hk.2.1, ⟨hk.2.2.1, ⟨hk.2.2.2.1, hk.2.2.2.2.1⟩⟩⟩⟩)⟩, ⟨by (with_reducible repeat (first | apply Kd.R_alloc | apply Kd.R_drewN | apply Kd.R_drew)); exact Kd.R_mono HO_218001.out (fun _ hk => ⟨hk.1, ⟨hk.2.1, ⟨hk.2.2.1, ⟨hk.2.2.2.1, hk.2.2.2.2.1⟩⟩⟩⟩)⟩, ⟨xb BK187.out⟩, ⟨xb BK202.out⟩, ⟨xb BK209.out⟩, ⟨xb BK217.out⟩, ⟨xs HB.out⟩⟩
            case rest =>
              clear HC66
              try clear c1
              try clear c2
              try clear p2
              try clear c3
              try clear c4
              try clear c5
              try clear c5b0
              try clear c6
              try clear c7
              try clear c8
              try clear c9
              try clear c15
              try clear c16
              try clear c17
              try clear c18
              try clear c19
              try clear c20
              try clear c24
              try clear c31
              try clear c32
              try clear c38
              try clear c39
              try clear c40
              try clear c44
              try clear c45
              try clear c46
              try clear c47
              try clear c49
              try clear c50
              try clear c53
              try clear c54
              try clear c55
              try clear c57
              try clear c58
              try clear c61
              try clear c64
              try clear c72
              try clear c73
              try clear c74
              try clear c77
              try clear c77b0
              try clear c79
              try clear c80
              try clear c81
              try clear c82
              try clear c84
              try clear c85
              try clear c88
              try clear c89
              try clear c90
              try clear c92
              try clear c93
              try clear hcz15_0
              try clear hcz15_1
              try clear hcz17_0
              try clear hcz17_1
              try clear hcz25_0
              try clear hcz25_1
              try clear hcz27_0
              try clear hcz27_1
              try clear hcz33_0
              try clear hcz33_1
              try clear hcz41_0
              try clear hcz41_1
              try clear hcz48_0
              try clear hcz48_1
              try clear hcz51_0
              try clear hcz51_1
              try clear hcz56_0
              try clear hcz56_1
              try clear hcz59_0
              try clear hcz59_1
              try clear hcz75_0
              try clear hcz75_1
              try clear hcz7_0
              try clear hcz7_1
              try clear hcz83_0
              try clear hcz83_1
              try clear hcz86_0
              try clear hcz86_1
              try clear hcz91_0
              try clear hcz91_1
              try clear hcz94_0
              try clear hcz94_1
              try clear hfz15_0
              try clear hfz15_1
              try clear hfz17_0
              try clear hfz17_1
              try clear hfz25_0
              try clear hfz25_1
              try clear hfz27_0
              try clear hfz27_1
              try clear hfz33_0
              try clear hfz33_1
              try clear hfz41_0
              try clear hfz41_1
              try clear hfz48_0
              try clear hfz48_1
              try clear hfz51_0
              try clear hfz51_1
              try clear hfz56_0
              try clear hfz56_1
              try clear hfz59_0
              try clear hfz59_1
              try clear hfz75_0
              try clear hfz75_1
              try clear hfz7_0
              try clear hfz7_1
              try clear hfz83_0
              try clear hfz83_1
              try clear hfz86_0
              try clear hfz86_1
              try clear hfz91_0
              try clear hfz91_1
              try clear hfz94_0
              try clear hfz94_1
              try clear p2
              obtain ⟨kq, x69_65, rfl, HA, HJ65, HO_203000, HO_203001, HO_210000, HO_210001, HO_218000, HO_218001, BK187, BK202, BK209, BK217, HB⟩ := hcut
              have hl210000_65 := (Kd.R_reads' HO_210000.out).1
              rw [hl210000_65] at HO_210000
              (try simp only [hl210000_65])
              (try simp only [hl210000_65] at BK187)
              (try simp only [hl210000_65] at BK202)
              (try simp only [hl210000_65] at BK209)
              (try simp only [hl210000_65] at BK217)
              (try simp only [hl210000_65] at HO_203000)
              (try simp only [hl210000_65] at HO_203001)
              (try simp only [hl210000_65] at HO_210001)
              (try simp only [hl210000_65] at HO_218000)
              (try simp only [hl210000_65] at HO_218001)
              have hl210001_65 := (Kd.R_reads' HO_210001.out).1
              rw [hl210001_65] at HO_210001
              (try simp only [hl210001_65])
              (try simp only [hl210001_65] at BK187)
              (try simp only [hl210001_65] at BK202)
              (try simp only [hl210001_65] at BK209)
              (try simp only [hl210001_65] at BK217)
              (try simp only [hl210001_65] at HO_203000)
              (try simp only [hl210001_65] at HO_203001)
              (try simp only [hl210001_65] at HO_210000)
              (try simp only [hl210001_65] at HO_218000)
              (try simp only [hl210001_65] at HO_218001)
              cases kq with
              | zero => exact absurd HA.out (by simp [laws_FnExactSwapVessels.j1])
              | succ kj65 =>
                have H := HA.out
                clear HA
                simp only [laws_FnExactSwapVessels.j1] at H
                by_cases c96 : x69_65 = true
                · subst c96
                  have H1 : (some false) = some true := by first | (rw [if_pos rfl] at H; exact H) | rfl
                  clear H
                  have H := H1
                  clear H1
                  exact absurd H (by simp)
                · replace c96 := Bool.eq_false_iff.mpr c96
                  subst c96
                  have H1 : ((laws_markVessels.f kj65 t210 t213 1).bind fun bt230 => ((laws_heldVessels.f kj65 bt230.2.1 bt230.2.2 1).bind fun t233 => (if t233 < 0 then (some false) else (if t233 = bt230.1 then ((laws_toVessels.f kj65 l0_0 l0_1).bind fun bt234 => ((impl_SwapVessels.f kj65 bt234.1 bt234.2 a1 a2).bind fun bt240 => ((laws_eqVessels.f kj65 bt240.1 bt240.2.1 t195 t198).bind fun t248 => (if t248 = true then (laws_FnExactSwapVessels.j2 kj65 bt230.1 (bt240.2.2 != t201) bt230.2.1 bt230.2.2) else (laws_FnExactSwapVessels.j2 kj65 bt230.1 true bt230.2.1 bt230.2.2))))) else (some false))))) = some true := by first | (rw [if_neg (show ¬ (false = true) by decide)] at H; exact H) | rfl
                  clear H
                  have H := H1
                  clear H1
                  replace H := Option.bind_eq_some_iff.mp H
                  obtain ⟨⟨t230, t231, t232⟩, A970, H⟩ := H
                  replace H : ((laws_heldVessels.f kj65 t231 t232 1).bind fun t233 => (if t233 < 0 then (some false) else (if t233 = t230 then ((laws_toVessels.f kj65 l0_0 l0_1).bind fun bt234 => ((impl_SwapVessels.f kj65 bt234.1 bt234.2 a1 a2).bind fun bt240 => ((laws_eqVessels.f kj65 bt240.1 bt240.2.1 t195 t198).bind fun t248 => (if t248 = true then (laws_FnExactSwapVessels.j2 kj65 t230 (bt240.2.2 != t201) t231 t232) else (laws_FnExactSwapVessels.j2 kj65 t230 true t231 t232))))) else (some false)))) = some true := H
                  have A97 := Aside0.mk A970
                  clear A970
                  replace H := Option.bind_eq_some_iff.mp H
                  obtain ⟨t233, A980, H⟩ := H
                  replace H : (if t233 < 0 then (some false) else (if t233 = t230 then ((laws_toVessels.f kj65 l0_0 l0_1).bind fun bt234 => ((impl_SwapVessels.f kj65 bt234.1 bt234.2 a1 a2).bind fun bt240 => ((laws_eqVessels.f kj65 bt240.1 bt240.2.1 t195 t198).bind fun t248 => (if t248 = true then (laws_FnExactSwapVessels.j2 kj65 t230 (bt240.2.2 != t201) t231 t232) else (laws_FnExactSwapVessels.j2 kj65 t230 true t231 t232))))) else (some false))) = some true := H
                  have A98 := Aside0.mk A980
                  clear A980
                  by_cases c99 : t233 < 0
                  · rw [if_pos c99] at H
                    have c99b0 : decide (t233 < 0) = true := decide_eq_true c99
                    clear c99
                    exact absurd H (by simp)
                  · rw [if_neg c99] at H
                    have c99b0 : decide (t233 < 0) = false := decide_eq_false c99
                    clear c99
                    by_cases c100 : t233 = t230
                    · rw [if_pos c100] at H
                      have c100b0 : (t233 == t230) = true := beq_iff_eq.mpr c100
                      have c100b1 : (t233 != t230) = false := bne_eq_false_iff_eq.mpr c100
                      clear c100
                      replace H := Option.bind_eq_some_iff.mp H
                      obtain ⟨⟨t234, t237⟩, A1010, H⟩ := H
                      replace H : ((impl_SwapVessels.f kj65 t234 t237 a1 a2).bind fun bt240 => ((laws_eqVessels.f kj65 bt240.1 bt240.2.1 t195 t198).bind fun t248 => (if t248 = true then (laws_FnExactSwapVessels.j2 kj65 t230 (bt240.2.2 != t201) t231 t232) else (laws_FnExactSwapVessels.j2 kj65 t230 true t231 t232)))) = some true := H
                      have A101 := Aside0.mk A1010
                      clear A1010
                      replace H := Option.bind_eq_some_iff.mp H
                      obtain ⟨⟨t240, t243, t246⟩, A1020, H⟩ := H
                      replace H : ((laws_eqVessels.f kj65 t240 t243 t195 t198).bind fun t248 => (if t248 = true then (laws_FnExactSwapVessels.j2 kj65 t230 (t246 != t201) t231 t232) else (laws_FnExactSwapVessels.j2 kj65 t230 true t231 t232))) = some true := H
                      have A102 := Aside0.mk A1020
                      clear A1020
                      have HC103 := Aside0.mk H
                      clear H
                      have hnb104 := NB217_187.out
                      have hnc104 := NB187_217.out
                      have hnb105 := NB217_202.out
                      have hnc105 := NB202_217.out
                      have hnb106 := NB217_209.out
                      have hnc106 := NB209_217.out
                      have hcz107_0 : wc.cell? ⟨gb217, 0, none⟩ = some (.slice Ao37 t210.length co37) := (blk_cell BK217.out 0).trans rfl
                      have hcz107_1 : wc.cell? ⟨gb217, 1, none⟩ = some (.slice Ao42 t213.length co42) := (blk_cell BK217.out 1).trans rfl
                      have hfz107_0 := blk_frozen BK217.out 0
                      have hfz107_1 := blk_frozen BK217.out 1
                      go_upto_region 25 with (first | ((with_reducible refine gate_callee (f := 20) rfl ?_); refine goesL_ (some 72) rfl rfl Try.func20 (by kernel_rfl) rfl #[.agg #[.slice Ao37 t210.length co37, .slice Ao42 t213.length co42], .int .i64 1] rfl (by (try simp only [List.map_toArray, List.map_cons, List.map_nil]); first | done | rfl | (simp only [List.length_drop, List.length_take]; rfl)) ?_; (with_reducible refine (laws_markVessels.calls kj65 (fun k_ => some k_ = (.slice Ao37 t210.length co37 : Value).ownBlock) (.slice Ao37 t210.length co37) t210 (fun k_ => some k_ = (.slice Ao42 t213.length co42 : Value).ownBlock) (.slice Ao42 t213.length co42) t213 1 t230 t231 t232 w _ ?side1 ?side2 ?side3 ?side4 ?side5 A97.out).mono ?_); (case side1 => repeat (first | (with_reducible first | exact HB.out | apply below_alloc | apply pw_below_drewN | apply below_drew1 | refine below_set ?_ GE187.out | refine below_set ?_ GE202.out | refine below_set ?_ GE209.out | refine below_set ?_ GE217.out) | exact HB.out)); (case side2 => exact Kd.R_tight rfl HO_218000.out); (case side3 => exact fun k_ e_ => (HO_218000.out.1 k_ e_.symm).2.2.2.2); (case side4 => exact Kd.R_tight rfl HO_218001.out); (case side5 => exact fun k_ e_ => (HO_218001.out.1 k_ e_.symm).2.2.2.2); rintro e w108 ⟨rfl, hy0, hy1, hb, hkp⟩; refine ⟨_, rfl, ?_⟩; have n0_ := Aside0.mk (Kd.R_mono (ok' := fun k_ => some k_ ≠ (.slice Ao26 t198.length co26 : Value).ownBlock ∧ some k_ ≠ (.slice Ao30 t227.length co30 : Value).ownBlock ∧ some k_ ≠ (.slice Ao34 t228.length co34 : Value).ownBlock ∧ some k_ ≠ (.slice Ao37 t210.length co37 : Value).ownBlock ∧ some k_ ≠ (.slice Ao42 t213.length co42 : Value).ownBlock) (Kd.R_keptB (HO_203000.out) hkp (fun k_ hk_ hs_ => Or.elim hs_ (fun e_ => (hk_.2.2.2.1) e_) (fun e_ => (hk_.2.2.2.2) e_))) (fun k_ hk_ => ⟨hk_.1.1, hk_.1.2.1, hk_.1.2.2.1, hk_.1.2.2.2.1, hk_.1.2.2.2.2⟩)); have n1_ := Aside0.mk (Kd.R_mono (ok' := fun k_ => some k_ ≠ (.slice Ao23 t195.length co23 : Value).ownBlock ∧ some k_ ≠ (.slice Ao30 t227.length co30 : Value).ownBlock ∧ some k_ ≠ (.slice Ao34 t228.length co34 : Value).ownBlock ∧ some k_ ≠ (.slice Ao37 t210.length co37 : Value).ownBlock ∧ some k_ ≠ (.slice Ao42 t213.length co42 : Value).ownBlock) (Kd.R_keptB (HO_203001.out) hkp (fun k_ hk_ hs_ => Or.elim hs_ (fun e_ => (hk_.2.2.2.1) e_) (fun e_ => (hk_.2.2.2.2) e_))) (fun k_ hk_ => ⟨hk_.1.1, hk_.1.2.1, hk_.1.2.2.1, hk_.1.2.2.2.1, hk_.1.2.2.2.2⟩)); have n2_ := Aside0.mk (Kd.R_mono (ok' := fun k_ => some k_ ≠ (.slice Ao23 t195.length co23 : Value).ownBlock ∧ some k_ ≠ (.slice Ao26 t198.length co26 : Value).ownBlock ∧ some k_ ≠ (.slice Ao34 t228.length co34 : Value).ownBlock ∧ some k_ ≠ (.slice Ao37 t210.length co37 : Value).ownBlock ∧ some k_ ≠ (.slice Ao42 t213.length co42 : Value).ownBlock) (Kd.R_keptB (HO_210000.out) hkp (fun k_ hk_ hs_ => Or.elim hs_ (fun e_ => (hk_.2.2.2.1) e_) (fun e_ => (hk_.2.2.2.2) e_))) (fun k_ hk_ => ⟨hk_.1.1, hk_.1.2.1, hk_.1.2.2.1, hk_.1.2.2.2.1, hk_.1.2.2.2.2⟩)); have n3_ := Aside0.mk (Kd.R_mono (ok' := fun k_ => some k_ ≠ (.slice Ao23 t195.length co23 : Value).ownBlock ∧ some k_ ≠ (.slice Ao26 t198.length co26 : Value).ownBlock ∧ some k_ ≠ (.slice Ao30 t227.length co30 : Value).ownBlock ∧ some k_ ≠ (.slice Ao37 t210.length co37 : Value).ownBlock ∧ some k_ ≠ (.slice Ao42 t213.length co42 : Value).ownBlock) (Kd.R_keptB (HO_210001.out) hkp (fun k_ hk_ hs_ => Or.elim hs_ (fun e_ => (hk_.2.2.2.1) e_) (fun e_ => (hk_.2.2.2.2) e_))) (fun k_ hk_ => ⟨hk_.1.1, hk_.1.2.1, hk_.1.2.2.1, hk_.1.2.2.2.1, hk_.1.2.2.2.2⟩)); have n4_ := Aside0.mk (Kd.R_reok rfl hy0 (fun k_ e_ => HO_218000.out.1 k_ e_)); have n5_ := Aside0.mk (Kd.R_reok rfl hy1 (fun k_ e_ => HO_218001.out.1 k_ e_)); have n6_ := Aside0.mk (blk_kept (xb BK187.out) hkp (fun hs_ => Or.elim hs_ (fun e_ => (fun e_ => (Kd.R_ne HO_218000.out BK187.out (by decide)) e_) e_) (fun e_ => (fun e_ => (Kd.R_ne HO_218001.out BK187.out (by decide)) e_) e_))); have n7_ := Aside0.mk (blk_kept (xb BK202.out) hkp (fun hs_ => Or.elim hs_ (fun e_ => (fun e_ => (Kd.R_ne HO_218000.out BK202.out (by decide)) e_) e_) (fun e_ => (fun e_ => (Kd.R_ne HO_218001.out BK202.out (by decide)) e_) e_))); have n8_ := Aside0.mk (blk_kept (xb BK209.out) hkp (fun hs_ => Or.elim hs_ (fun e_ => (fun e_ => (Kd.R_ne HO_218000.out BK209.out (by decide)) e_) e_) (fun e_ => (fun e_ => (Kd.R_ne HO_218001.out BK209.out (by decide)) e_) e_))); have n9_ := Aside0.mk (blk_kept (xb BK217.out) hkp (fun hs_ => Or.elim hs_ (fun e_ => (fun e_ => (Kd.R_ne HO_218000.out BK217.out (by decide)) e_) e_) (fun e_ => (fun e_ => (Kd.R_ne HO_218001.out BK217.out (by decide)) e_) e_))); have n10_ := Aside0.mk (hb); clear HO_203000; clear HO_203001; clear HO_210000; clear HO_210001; clear HO_218000; clear HO_218001; clear BK187; clear BK202; clear BK209; clear BK217; clear HB; have HO_203000 := n0_; have HO_203001 := n1_; have HO_210000 := n2_; have HO_210001 := n3_; have HO_218000 := n4_; have HO_218001 := n5_; have BK187 := n6_; have BK202 := n7_; have BK209 := n8_; have BK217 := n9_; have HB := n10_; clear n0_ n1_ n2_ n3_ n4_ n5_ n6_ n7_ n8_ n9_ n10_; (try clear hb); (try clear hkp); (try clear hy0); (try clear hy1); have hcz109_0 : w108.cell? ⟨gb217, 0, none⟩ = some (.slice Ao37 t210.length co37) := (blk_cell BK217.out 0).trans rfl; have hcz109_1 : w108.cell? ⟨gb217, 1, none⟩ = some (.slice Ao42 t213.length co42) := (blk_cell BK217.out 1).trans rfl; have hfz109_0 := blk_frozen BK217.out 0; have hfz109_1 := blk_frozen BK217.out 1) | ((with_reducible refine gate_callee (f := 21) rfl ?_); refine goesL_ (some 75) rfl rfl Try.func21 (by kernel_rfl) rfl #[.agg #[.slice Ao37 t231.length co37, .slice Ao42 t232.length co42], .int .i64 1] rfl (by (try simp only [List.map_toArray, List.map_cons, List.map_nil]); first | done | (rw [show t231.length = t210.length from (Kd.R_reads' HO_218000.out).1.symm, show t232.length = t213.length from (Kd.R_reads' HO_218001.out).1.symm] <;> rfl) | rfl | (simp only [List.length_drop, List.length_take]; rfl)) ?_; (with_reducible refine (laws_heldVessels.calls kj65 _ _ t231 _ _ t232 1 t233 _ ?side1 ?side2 ?side3 ?side4 A98.out).mono ?_); (case side1 => repeat (first | exact (Kd.R_reads' HO_218000.out).2.2 | (with_reducible refine Kd.C_alloc ?_ _) | (with_reducible refine Kd.C_drewN ?_ _) | (with_reducible refine Kd.C_drew ?_))); (case side2 => rw [show t231.length = t210.length from (Kd.R_reads' HO_218000.out).1.symm]; exact (Kd.R_reads' HO_218000.out).2.1); (case side3 => repeat (first | exact (Kd.R_reads' HO_218001.out).2.2 | (with_reducible refine Kd.C_alloc ?_ _) | (with_reducible refine Kd.C_drewN ?_ _) | (with_reducible refine Kd.C_drew ?_))); (case side4 => rw [show t232.length = t213.length from (Kd.R_reads' HO_218001.out).1.symm]; exact (Kd.R_reads' HO_218001.out).2.1); rintro e w110 ⟨rfl, hb⟩; refine ⟨_, rfl, ?_⟩; have n0_ := Aside0.mk (Kd.R_below (xr HO_203000.out) hb); have n1_ := Aside0.mk (Kd.R_below (xr HO_203001.out) hb); have n2_ := Aside0.mk (Kd.R_below (xr HO_210000.out) hb); have n3_ := Aside0.mk (Kd.R_below (xr HO_210001.out) hb); have n4_ := Aside0.mk (Kd.R_below (xr HO_218000.out) hb); have n5_ := Aside0.mk (Kd.R_below (xr HO_218001.out) hb); have n6_ := Aside0.mk (blk_below (g := gb187) (o := .cells #[.slice A0_0 l0_0.length c0_0, .slice A0_1 l0_1.length c0_1] 24 (0, 0)) (xb BK187.out) hb); have n7_ := Aside0.mk (blk_below (g := gb202) (o := .cells #[.slice Ao23 t195.length co23, .slice Ao26 t198.length co26] 26 (0, 0)) (xb BK202.out) hb); have n8_ := Aside0.mk (blk_below (g := gb209) (o := .cells #[.slice Ao30 t227.length co30, .slice Ao34 t228.length co34] 26 (0, 0)) (xb BK209.out) hb); have n9_ := Aside0.mk (blk_below (g := gb217) (o := .cells #[.slice Ao37 t210.length co37, .slice Ao42 t213.length co42] 26 (0, 0)) (xb BK217.out) hb); have n10_ := Aside0.mk (below_step (xs HB.out) hb); clear HO_203000; clear HO_203001; clear HO_210000; clear HO_210001; clear HO_218000; clear HO_218001; clear BK187; clear BK202; clear BK209; clear BK217; clear HB; have HO_203000 := n0_; have HO_203001 := n1_; have HO_210000 := n2_; have HO_210001 := n3_; have HO_218000 := n4_; have HO_218001 := n5_; have BK187 := n6_; have BK202 := n7_; have BK209 := n8_; have BK217 := n9_; have HB := n10_; clear n0_ n1_ n2_ n3_ n4_ n5_ n6_ n7_ n8_ n9_ n10_; (try clear hb); (try clear hb2); (try clear hk); (try clear hi); have hnb111 := NB187_202.out; have hnc111 := NB202_187.out; have hnb112 := NB187_209.out; have hnc112 := NB209_187.out; have hcz113_0 : w110.cell? ⟨gb187, 0, none⟩ = some (.slice A0_0 l0_0.length c0_0) := (blk_cell BK187.out 0).trans rfl; have hcz113_1 : w110.cell? ⟨gb187, 1, none⟩ = some (.slice A0_1 l0_1.length c0_1) := (blk_cell BK187.out 1).trans rfl; have hfz113_0 := blk_frozen BK187.out 0; have hfz113_1 := blk_frozen BK187.out 1) | ((with_reducible refine gate_callee (f := 17) rfl ?_); refine goesL_ (some 83) rfl rfl Try.func17 (by kernel_rfl) rfl #[.agg #[.slice A0_0 l0_0.length c0_0, .slice A0_1 l0_1.length c0_1]] rfl (by (try simp only [List.map_toArray, List.map_cons, List.map_nil]); first | done | rfl | (simp only [List.length_drop, List.length_take]; rfl)) ?_; (with_reducible refine (laws_toVessels.calls kj65 _ _ l0_0 _ _ l0_1 t234 t237 _ ?side1 ?side2 ?side3 ?side4 A101.out).mono ?_); (case side1 => repeat (first | exact (Kd.C_below HR0_0.out HB.out) | (with_reducible refine Kd.C_alloc ?_ _) | (with_reducible refine Kd.C_drewN ?_ _) | (with_reducible refine Kd.C_drew ?_))); (case side2 => exact HC0_0.out); (case side3 => repeat (first | exact (Kd.C_below HR0_1.out HB.out) | (with_reducible refine Kd.C_alloc ?_ _) | (with_reducible refine Kd.C_drewN ?_ _) | (with_reducible refine Kd.C_drew ?_))); (case side4 => exact HC0_1.out); rintro e w114 ⟨v235, v238, rfl, ho0, ho1, hb⟩; refine ⟨_, rfl, ?_⟩; have n0_ := Aside0.mk (Kd.R_mono (Kd.R_told (Kd.R_told (Kd.R_old (xr HO_203000.out) hb) (Kd.R_base ho0)) (Kd.R_base ho1)) (fun _ h_ => h_.1)); have n1_ := Aside0.mk (Kd.R_mono (Kd.R_told (Kd.R_told (Kd.R_old (xr HO_203001.out) hb) (Kd.R_base ho0)) (Kd.R_base ho1)) (fun _ h_ => h_.1)); have n2_ := Aside0.mk (Kd.R_mono (Kd.R_told (Kd.R_told (Kd.R_old (xr HO_210000.out) hb) (Kd.R_base ho0)) (Kd.R_base ho1)) (fun _ h_ => h_.1)); have n3_ := Aside0.mk (Kd.R_mono (Kd.R_told (Kd.R_told (Kd.R_old (xr HO_210001.out) hb) (Kd.R_base ho0)) (Kd.R_base ho1)) (fun _ h_ => h_.1)); have n4_ := Aside0.mk (Kd.R_mono (Kd.R_told (Kd.R_told (Kd.R_old (xr HO_218000.out) hb) (Kd.R_base ho0)) (Kd.R_base ho1)) (fun _ h_ => h_.1)); have n5_ := Aside0.mk (Kd.R_mono (Kd.R_told (Kd.R_told (Kd.R_old (xr HO_218001.out) hb) (Kd.R_base ho0)) (Kd.R_base ho1)) (fun _ h_ => h_.1)); have n6_ := Aside0.mk (Kd.R_lower (Kd.R_new' (Kd.R_new' (Kd.R_new' (Kd.R_new' (Kd.R_new' (Kd.R_new' ho0 (Kd.R_lt (xr HO_203000.out))) (Kd.R_lt (xr HO_203001.out))) (Kd.R_lt (xr HO_210000.out))) (Kd.R_lt (xr HO_210001.out))) (Kd.R_lt (xr HO_218000.out))) (Kd.R_lt (xr HO_218001.out))) (below_size (xs HB.out))); have n7_ := Aside0.mk (Kd.R_lower (Kd.R_new' (Kd.R_new' (Kd.R_new' (Kd.R_new' (Kd.R_new' (Kd.R_new' ho1 (Kd.R_lt (xr HO_203000.out))) (Kd.R_lt (xr HO_203001.out))) (Kd.R_lt (xr HO_210000.out))) (Kd.R_lt (xr HO_210001.out))) (Kd.R_lt (xr HO_218000.out))) (Kd.R_lt (xr HO_218001.out))) (below_size (xs HB.out))); have n8_ := Aside0.mk (blk_below (g := gb187) (o := .cells #[.slice A0_0 l0_0.length c0_0, .slice A0_1 l0_1.length c0_1] 24 (0, 0)) (xb BK187.out) hb); have n9_ := Aside0.mk (blk_below (g := gb202) (o := .cells #[.slice Ao23 t195.length co23, .slice Ao26 t198.length co26] 26 (0, 0)) (xb BK202.out) hb); have n10_ := Aside0.mk (blk_below (g := gb209) (o := .cells #[.slice Ao30 t227.length co30, .slice Ao34 t228.length co34] 26 (0, 0)) (xb BK209.out) hb); have n11_ := Aside0.mk (blk_below (g := gb217) (o := .cells #[.slice Ao37 t210.length co37, .slice Ao42 t213.length co42] 26 (0, 0)) (xb BK217.out) hb); have n12_ := Aside0.mk (below_step (xs HB.out) hb); clear HO_203000; clear HO_203001; clear HO_210000; clear HO_210001; clear HO_218000; clear HO_218001; clear BK187; clear BK202; clear BK209; clear BK217; clear HB; have HO_203000 := n0_; have HO_203001 := n1_; have HO_210000 := n2_; have HO_210001 := n3_; have HO_218000 := n4_; have HO_218001 := n5_; have HO236 := n6_; have HO239 := n7_; have BK187 := n8_; have BK202 := n9_; have BK209 := n10_; have BK217 := n11_; have HB := n12_; clear n0_ n1_ n2_ n3_ n4_ n5_ n6_ n7_ n8_ n9_ n10_ n11_ n12_; (try clear hb); (try clear hb2); (try clear hk); (try clear hi); (try clear ho0); (try clear ho1); obtain ⟨Ao115, co115, eo115⟩ := Kd.R_slice HO236.out; subst eo115; obtain ⟨Ao116, co116, eo116⟩ := Kd.R_slice HO239.out; subst eo116) | ((with_reducible refine gate_callee (f := 18) rfl ?_); refine goesL_ (some 86) rfl rfl Try.func18 (by kernel_rfl) rfl #[.agg #[.slice Ao115 t234.length co115, .slice Ao116 t237.length co116], .int .i64 a1, .int .i64 a2] rfl (by (try simp only [List.map_toArray, List.map_cons, List.map_nil]); first | done | rfl | (simp only [List.length_drop, List.length_take]; rfl)) ?_; (with_reducible refine (impl_SwapVessels.calls kj65 _ _ t234 _ _ t237 a1 a2 t240 t243 t246 _ ?side1 ?side2 ?side3 ?side4 A102.out).mono ?_); (case side1 => repeat (first | exact (Kd.R_reads' HO236.out).2.2 | (with_reducible refine Kd.C_alloc ?_ _) | (with_reducible refine Kd.C_drewN ?_ _) | (with_reducible refine Kd.C_drew ?_))); (case side2 => exact (Kd.R_reads' HO236.out).2.1); (case side3 => repeat (first | exact (Kd.R_reads' HO239.out).2.2 | (with_reducible refine Kd.C_alloc ?_ _) | (with_reducible refine Kd.C_drewN ?_ _) | (with_reducible refine Kd.C_drew ?_))); (case side4 => exact (Kd.R_reads' HO239.out).2.1); rintro e w117 ⟨v241, v244, rfl, ho0, ho1, hb⟩; refine ⟨_, rfl, ?_⟩; have n0_ := Aside0.mk (Kd.R_mono (Kd.R_told (Kd.R_told (Kd.R_old (xr HO_203000.out) hb) (Kd.R_base ho0)) (Kd.R_base ho1)) (fun _ h_ => h_.1)); have n1_ := Aside0.mk (Kd.R_mono (Kd.R_told (Kd.R_told (Kd.R_old (xr HO_203001.out) hb) (Kd.R_base ho0)) (Kd.R_base ho1)) (fun _ h_ => h_.1)); have n2_ := Aside0.mk (Kd.R_mono (Kd.R_told (Kd.R_told (Kd.R_old (xr HO_210000.out) hb) (Kd.R_base ho0)) (Kd.R_base ho1)) (fun _ h_ => h_.1)); have n3_ := Aside0.mk (Kd.R_mono (Kd.R_told (Kd.R_told (Kd.R_old (xr HO_210001.out) hb) (Kd.R_base ho0)) (Kd.R_base ho1)) (fun _ h_ => h_.1)); have n4_ := Aside0.mk (Kd.R_mono (Kd.R_told (Kd.R_told (Kd.R_old (xr HO_218000.out) hb) (Kd.R_base ho0)) (Kd.R_base ho1)) (fun _ h_ => h_.1)); have n5_ := Aside0.mk (Kd.R_mono (Kd.R_told (Kd.R_told (Kd.R_old (xr HO_218001.out) hb) (Kd.R_base ho0)) (Kd.R_base ho1)) (fun _ h_ => h_.1)); have n6_ := Aside0.mk (Kd.R_mono (Kd.R_told (Kd.R_told (Kd.R_old (xr HO236.out) hb) (Kd.R_base ho0)) (Kd.R_base ho1)) (fun _ h_ => h_.1)); have n7_ := Aside0.mk (Kd.R_mono (Kd.R_told (Kd.R_told (Kd.R_old (xr HO239.out) hb) (Kd.R_base ho0)) (Kd.R_base ho1)) (fun _ h_ => h_.1)); have n8_ := Aside0.mk (Kd.R_lower (Kd.R_new' (Kd.R_new' (Kd.R_new' (Kd.R_new' (Kd.R_new' (Kd.R_new' (Kd.R_new' (Kd.R_new' ho0 (Kd.R_lt (xr HO_203000.out))) (Kd.R_lt (xr HO_203001.out))) (Kd.R_lt (xr HO_210000.out))) (Kd.R_lt (xr HO_210001.out))) (Kd.R_lt (xr HO_218000.out))) (Kd.R_lt (xr HO_218001.out))) (Kd.R_lt (xr HO236.out))) (Kd.R_lt (xr HO239.out))) (below_size (xs HB.out))); have n9_ := Aside0.mk (Kd.R_lower (Kd.R_new' (Kd.R_new' (Kd.R_new' (Kd.R_new' (Kd.R_new' (Kd.R_new' (Kd.R_new' (Kd.R_new' ho1 (Kd.R_lt (xr HO_203000.out))) (Kd.R_lt (xr HO_203001.out))) (Kd.R_lt (xr HO_210000.out))) (Kd.R_lt (xr HO_210001.out))) (Kd.R_lt (xr HO_218000.out))) (Kd.R_lt (xr HO_218001.out))) (Kd.R_lt (xr HO236.out))) (Kd.R_lt (xr HO239.out))) (below_size (xs HB.out))); have n10_ := Aside0.mk (blk_below (g := gb187) (o := .cells #[.slice A0_0 l0_0.length c0_0, .slice A0_1 l0_1.length c0_1] 24 (0, 0)) (xb BK187.out) hb); have n11_ := Aside0.mk (blk_below (g := gb202) (o := .cells #[.slice Ao23 t195.length co23, .slice Ao26 t198.length co26] 26 (0, 0)) (xb BK202.out) hb); have n12_ := Aside0.mk (blk_below (g := gb209) (o := .cells #[.slice Ao30 t227.length co30, .slice Ao34 t228.length co34] 26 (0, 0)) (xb BK209.out) hb); have n13_ := Aside0.mk (blk_below (g := gb217) (o := .cells #[.slice Ao37 t210.length co37, .slice Ao42 t213.length co42] 26 (0, 0)) (xb BK217.out) hb); have n14_ := Aside0.mk (below_step (xs HB.out) hb); clear HO_203000; clear HO_203001; clear HO_210000; clear HO_210001; clear HO_218000; clear HO_218001; clear HO236; clear HO239; clear BK187; clear BK202; clear BK209; clear BK217; clear HB; have HO_203000 := n0_; have HO_203001 := n1_; have HO_210000 := n2_; have HO_210001 := n3_; have HO_218000 := n4_; have HO_218001 := n5_; have HO236 := n6_; have HO239 := n7_; have HO242 := n8_; have HO245 := n9_; have BK187 := n10_; have BK202 := n11_; have BK209 := n12_; have BK217 := n13_; have HB := n14_; clear n0_ n1_ n2_ n3_ n4_ n5_ n6_ n7_ n8_ n9_ n10_ n11_ n12_ n13_ n14_; (try clear hb); (try clear hb2); (try clear hk); (try clear hi); (try clear ho0); (try clear ho1)) | ((with_reducible refine gate_dst (N := 16) rfl ?_); refine box_event ?hg (N := 16) ?hd (cs := #[.slice none 0 0, .slice none 0 0]) (t := 26) ?hr ?_; (case hd => rfl); (case hg => rfl); (case hr => first | (go_simp; done) | (go_simp; rfl)); intro gb247 hg w118 hbox hb; have n0_ := Aside0.mk (Kd.R_below (xr HO_203000.out) hb); have n1_ := Aside0.mk (Kd.R_below (xr HO_203001.out) hb); have n2_ := Aside0.mk (Kd.R_below (xr HO_210000.out) hb); have n3_ := Aside0.mk (Kd.R_below (xr HO_210001.out) hb); have n4_ := Aside0.mk (Kd.R_below (xr HO_218000.out) hb); have n5_ := Aside0.mk (Kd.R_below (xr HO_218001.out) hb); have n6_ := Aside0.mk (Kd.R_below (xr HO236.out) hb); have n7_ := Aside0.mk (Kd.R_below (xr HO239.out) hb); have n8_ := Aside0.mk (Kd.R_below (xr HO242.out) hb); have n9_ := Aside0.mk (Kd.R_below (xr HO245.out) hb); have n10_ := Aside0.mk (blk_below (g := gb187) (o := .cells #[.slice A0_0 l0_0.length c0_0, .slice A0_1 l0_1.length c0_1] 24 (0, 0)) (xb BK187.out) hb); have n11_ := Aside0.mk (blk_below (g := gb202) (o := .cells #[.slice Ao23 t195.length co23, .slice Ao26 t198.length co26] 26 (0, 0)) (xb BK202.out) hb); have n12_ := Aside0.mk (blk_below (g := gb209) (o := .cells #[.slice Ao30 t227.length co30, .slice Ao34 t228.length co34] 26 (0, 0)) (xb BK209.out) hb); have n13_ := Aside0.mk (blk_below (g := gb217) (o := .cells #[.slice Ao37 t210.length co37, .slice Ao42 t213.length co42] 26 (0, 0)) (xb BK217.out) hb); have n14_ := Aside0.mk (below_step (xs HB.out) hb); have n15_ := Aside0.mk (hbox); have n16_ := Aside0.mk ((by rw [hg]; exact (below_size (xs HB.out)) : w.heap.size ≤ gb247)); have n17_ := Aside0.mk ((by rw [hg]; exact (below_size (xs HB.out)) : w.heap.size ≤ gb247)); have n18_ := Aside0.mk ((by rw [hg]; exact Nat.ne_of_lt (blk_lt (g := gb187) (o := .cells #[.slice A0_0 l0_0.length c0_0, .slice A0_1 l0_1.length c0_1] 24 (0, 0)) (xb BK187.out)) : gb187 ≠ gb247)); have n19_ := Aside0.mk ((by rw [hg]; exact Nat.ne_of_gt (blk_lt (g := gb187) (o := .cells #[.slice A0_0 l0_0.length c0_0, .slice A0_1 l0_1.length c0_1] 24 (0, 0)) (xb BK187.out)) : gb247 ≠ gb187)); have n20_ := Aside0.mk ((by rw [hg]; exact Nat.ne_of_lt (blk_lt (g := gb202) (o := .cells #[.slice Ao23 t195.length co23, .slice Ao26 t198.length co26] 26 (0, 0)) (xb BK202.out)) : gb202 ≠ gb247)); have n21_ := Aside0.mk ((by rw [hg]; exact Nat.ne_of_gt (blk_lt (g := gb202) (o := .cells #[.slice Ao23 t195.length co23, .slice Ao26 t198.length co26] 26 (0, 0)) (xb BK202.out)) : gb247 ≠ gb202)); have n22_ := Aside0.mk ((by rw [hg]; exact Nat.ne_of_lt (blk_lt (g := gb209) (o := .cells #[.slice Ao30 t227.length co30, .slice Ao34 t228.length co34] 26 (0, 0)) (xb BK209.out)) : gb209 ≠ gb247)); have n23_ := Aside0.mk ((by rw [hg]; exact Nat.ne_of_gt (blk_lt (g := gb209) (o := .cells #[.slice Ao30 t227.length co30, .slice Ao34 t228.length co34] 26 (0, 0)) (xb BK209.out)) : gb247 ≠ gb209)); have n24_ := Aside0.mk ((by rw [hg]; exact Nat.ne_of_lt (blk_lt (g := gb217) (o := .cells #[.slice Ao37 t210.length co37, .slice Ao42 t213.length co42] 26 (0, 0)) (xb BK217.out)) : gb217 ≠ gb247)); have n25_ := Aside0.mk ((by rw [hg]; exact Nat.ne_of_gt (blk_lt (g := gb217) (o := .cells #[.slice Ao37 t210.length co37, .slice Ao42 t213.length co42] 26 (0, 0)) (xb BK217.out)) : gb247 ≠ gb217)); clear HO_203000; clear HO_203001; clear HO_210000; clear HO_210001; clear HO_218000; clear HO_218001; clear HO236; clear HO239; clear HO242; clear HO245; clear BK187; clear BK202; clear BK209; clear BK217; clear HB; have HO_203000 := n0_; have HO_203001 := n1_; have HO_210000 := n2_; have HO_210001 := n3_; have HO_218000 := n4_; have HO_218001 := n5_; have HO236 := n6_; have HO239 := n7_; have HO242 := n8_; have HO245 := n9_; have BK187 := n10_; have BK202 := n11_; have BK209 := n12_; have BK217 := n13_; have HB := n14_; have BK247 := n15_; have GW247 := n16_; have GE247 := n17_; have NB187_247 := n18_; have NB247_187 := n19_; have NB202_247 := n20_; have NB247_202 := n21_; have NB209_247 := n22_; have NB247_209 := n23_; have NB217_247 := n24_; have NB247_217 := n25_; clear n0_ n1_ n2_ n3_ n4_ n5_ n6_ n7_ n8_ n9_ n10_ n11_ n12_ n13_ n14_ n15_ n16_ n17_ n18_ n19_ n20_ n21_ n22_ n23_ n24_ n25_; clear hb hbox hg; obtain ⟨Ao119, co119, eo119⟩ := Kd.R_slice HO242.out; subst eo119; have hnb120 := NB247_187.out; have hnc120 := NB187_247.out; have hnb121 := NB247_202.out; have hnc121 := NB202_247.out; have hnb122 := NB247_209.out; have hnc122 := NB209_247.out; have hnb123 := NB247_217.out; have hnc123 := NB217_247.out; have hcz124_0 : w118.cell? ⟨gb247, 0, none⟩ = some (.slice none 0 0) := (blk_cell BK247.out 0).trans rfl; have hcz124_1 : w118.cell? ⟨gb247, 1, none⟩ = some (.slice none 0 0) := (blk_cell BK247.out 1).trans rfl; have hfz124_0 := blk_frozen BK247.out 0; have hfz124_1 := blk_frozen BK247.out 1; obtain ⟨Ao125, co125, eo125⟩ := Kd.R_slice HO245.out; subst eo125))
                      (try simp only [Act.put, List.setIfInBounds_toArray, List.set_cons_zero, List.set_cons_succ])
                      go_cut [97] (fun v97 wc => ∃ (kq : Nat) (x97_102 : Bool), v97 = .bool x97_102 ∧ Aside0 (laws_FnExactSwapVessels.j2 kq t230 x97_102 t231 t232 = some true) ∧ Aside0 (kq ≤ kj65) ∧ Aside0 (Kd.R (Kd.int .i64) 3 wc w.heap.size (fun k_ => some k_ ≠ ((.slice Ao26 t198.length co26) : Value).ownBlock ∧ some k_ ≠ ((.slice Ao30 t227.length co30) : Value).ownBlock ∧ some k_ ≠ ((.slice Ao34 t228.length co34) : Value).ownBlock ∧ some k_ ≠ ((.slice Ao37 t210.length co37) : Value).ownBlock ∧ some k_ ≠ ((.slice Ao42 t213.length co42) : Value).ownBlock ∧ some k_ ≠ ((.slice Ao119 t240.length co119) : Value).ownBlock ∧ some k_ ≠ ((.slice Ao125 t243.length co125) : Value).ownBlock) (.slice Ao23 t195.length co23) t195) ∧ Aside0 (Kd.R (Kd.int .i64) 3 wc w.heap.size (fun k_ => some k_ ≠ ((.slice Ao23 t195.length co23) : Value).ownBlock ∧ some k_ ≠ ((.slice Ao30 t227.length co30) : Value).ownBlock ∧ some k_ ≠ ((.slice Ao34 t228.length co34) : Value).ownBlock ∧ some k_ ≠ ((.slice Ao37 t210.length co37) : Value).ownBlock ∧ some k_ ≠ ((.slice Ao42 t213.length co42) : Value).ownBlock ∧ some k_ ≠ ((.slice Ao119 t240.length co119) : Value).ownBlock ∧ some k_ ≠ ((.slice Ao125 t243.length co125) : Value).ownBlock) (.slice Ao26 t198.length co26) t198) ∧ Aside0 (Kd.R (Kd.int .i64) 3 wc w.heap.size (fun k_ => some k_ ≠ ((.slice Ao23 t195.length co23) : Value).ownBlock ∧ some k_ ≠ ((.slice Ao26 t198.length co26) : Value).ownBlock ∧ some k_ ≠ ((.slice Ao34 t228.length co34) : Value).ownBlock ∧ some k_ ≠ ((.slice Ao37 t210.length co37) : Value).ownBlock ∧ some k_ ≠ ((.slice Ao42 t213.length co42) : Value).ownBlock ∧ some k_ ≠ ((.slice Ao119 t240.length co119) : Value).ownBlock ∧ some k_ ≠ ((.slice Ao125 t243.length co125) : Value).ownBlock) (.slice Ao30 t227.length co30) t227) ∧ Aside0 (Kd.R (Kd.int .i64) 3 wc w.heap.size (fun k_ => some k_ ≠ ((.slice Ao23 t195.length co23) : Value).ownBlock ∧ some k_ ≠ ((.slice Ao26 t198.length co26) : Value).ownBlock ∧ some k_ ≠ ((.slice Ao30 t227.length co30) : Value).ownBlock ∧ some k_ ≠ ((.slice Ao37 t210.length co37) : Value).ownBlock ∧ some k_ ≠ ((.slice Ao42 t213.length co42) : Value).ownBlock ∧ some k_ ≠ ((.slice Ao119 t240.length co119) : Value).ownBlock ∧ some k_ ≠ ((.slice Ao125 t243.length co125) : Value).ownBlock) (.slice Ao34 t228.length co34) t228) ∧ Aside0 (Kd.R (Kd.int .i64) 3 wc w.heap.size (fun k_ => some k_ ≠ ((.slice Ao23 t195.length co23) : Value).ownBlock ∧ some k_ ≠ ((.slice Ao26 t198.length co26) : Value).ownBlock ∧ some k_ ≠ ((.slice Ao30 t227.length co30) : Value).ownBlock ∧ some k_ ≠ ((.slice Ao34 t228.length co34) : Value).ownBlock ∧ some k_ ≠ ((.slice Ao42 t213.length co42) : Value).ownBlock ∧ some k_ ≠ ((.slice Ao119 t240.length co119) : Value).ownBlock ∧ some k_ ≠ ((.slice Ao125 t243.length co125) : Value).ownBlock) (.slice Ao37 t210.length co37) t231) ∧ Aside0 (Kd.R (Kd.int .i64) 3 wc w.heap.size (fun k_ => some k_ ≠ ((.slice Ao23 t195.length co23) : Value).ownBlock ∧ some k_ ≠ ((.slice Ao26 t198.length co26) : Value).ownBlock ∧ some k_ ≠ ((.slice Ao30 t227.length co30) : Value).ownBlock ∧ some k_ ≠ ((.slice Ao34 t228.length co34) : Value).ownBlock ∧ some k_ ≠ ((.slice Ao37 t210.length co37) : Value).ownBlock ∧ some k_ ≠ ((.slice Ao119 t240.length co119) : Value).ownBlock ∧ some k_ ≠ ((.slice Ao125 t243.length co125) : Value).ownBlock) (.slice Ao42 t213.length co42) t232) ∧ Aside0 (Kd.R (Kd.int .i64) 3 wc w.heap.size (fun k_ => some k_ ≠ ((.slice Ao23 t195.length co23) : Value).ownBlock ∧ some k_ ≠ ((.slice Ao26 t198.length co26) : Value).ownBlock ∧ some k_ ≠ ((.slice Ao30 t227.length co30) : Value).ownBlock ∧ some k_ ≠ ((.slice Ao34 t228.length co34) : Value).ownBlock ∧ some k_ ≠ ((.slice Ao37 t210.length co37) : Value).ownBlock ∧ some k_ ≠ ((.slice Ao42 t213.length co42) : Value).ownBlock ∧ some k_ ≠ ((.slice Ao125 t243.length co125) : Value).ownBlock) (.slice Ao119 t240.length co119) t240) ∧ Aside0 (Kd.R (Kd.int .i64) 3 wc w.heap.size (fun k_ => some k_ ≠ ((.slice Ao23 t195.length co23) : Value).ownBlock ∧ some k_ ≠ ((.slice Ao26 t198.length co26) : Value).ownBlock ∧ some k_ ≠ ((.slice Ao30 t227.length co30) : Value).ownBlock ∧ some k_ ≠ ((.slice Ao34 t228.length co34) : Value).ownBlock ∧ some k_ ≠ ((.slice Ao37 t210.length co37) : Value).ownBlock ∧ some k_ ≠ ((.slice Ao42 t213.length co42) : Value).ownBlock ∧ some k_ ≠ ((.slice Ao119 t240.length co119) : Value).ownBlock) (.slice Ao125 t243.length co125) t243) ∧ Aside0 (wc.heap[gb187]? = some (.cells #[(.slice A0_0 l0_0.length c0_0), (.slice A0_1 l0_1.length c0_1)] 24 (0, 0))) ∧ Aside0 (wc.heap[gb202]? = some (.cells #[(.slice Ao23 t195.length co23), (.slice Ao26 t198.length co26)] 26 (0, 0))) ∧ Aside0 (wc.heap[gb209]? = some (.cells #[(.slice Ao30 t227.length co30), (.slice Ao34 t228.length co34)] 26 (0, 0))) ∧ Aside0 (wc.heap[gb217]? = some (.cells #[(.slice Ao37 t210.length co37), (.slice Ao42 t213.length co42)] 26 (0, 0))) ∧ Aside0 (wc.heap[gb247]? = some (.cells #[(.slice Ao119 t240.length co119), (.slice Ao125 t243.length co125)] 26 (0, 0))) ∧ Aside0 (Below w.heap.size w wc))
                      case first =>
                        have H := HC103.out
                        clear HC103
                        replace H := Option.bind_eq_some_iff.mp H
                        obtain ⟨t248, A1260, H⟩ := H
                        replace H : (if t248 = true then (laws_FnExactSwapVessels.j2 kj65 t230 (t246 != t201) t231 t232) else (laws_FnExactSwapVessels.j2 kj65 t230 true t231 t232)) = some true := H
                        have A126 := Aside0.mk A1260
                        clear A1260
                        by_cases c127 : t248 = true
                        · subst c127
                          have H1 : (laws_FnExactSwapVessels.j2 kj65 t230 (t246 != t201) t231 t232) = some true := by first | (rw [if_pos rfl] at H; exact H) | rfl
                          clear H
                          have H := H1
                          clear H1
                          have H' := Aside0.mk H
                          clear H
                          have hnb128 := NB247_187.out
                          have hnc128 := NB187_247.out
                          have hnb129 := NB247_202.out
                          have hnc129 := NB202_247.out
                          have hnb130 := NB247_209.out
                          have hnc130 := NB209_247.out
                          have hnb131 := NB247_217.out
                          have hnc131 := NB217_247.out
                          have hcz132_0 : w118.cell? ⟨gb247, 0, none⟩ = some (.slice none 0 0) := (blk_cell BK247.out 0).trans rfl
                          have hcz132_1 : w118.cell? ⟨gb247, 1, none⟩ = some (.slice none 0 0) := (blk_cell BK247.out 1).trans rfl
                          have hfz132_0 := blk_frozen BK247.out 0
                          have hfz132_1 := blk_frozen BK247.out 1
                          have hnb133 := NB202_187.out
                          have hnc133 := NB187_202.out
                          have hnb134 := NB202_209.out
                          have hnc134 := NB209_202.out
                          have hnb135 := NB202_217.out
                          have hnc135 := NB217_202.out
                          have hcz136_0 : w118.cell? ⟨gb202, 0, none⟩ = some (.slice Ao23 t195.length co23) := (blk_cell BK202.out 0).trans rfl
                          have hcz136_1 : w118.cell? ⟨gb202, 1, none⟩ = some (.slice Ao26 t198.length co26) := (blk_cell BK202.out 1).trans rfl
                          have hfz136_0 := blk_frozen BK202.out 0
                          have hfz136_1 := blk_frozen BK202.out 1
                          go_wp2_with (first | ((with_reducible refine gate_callee (f := 19) rfl ?_); refine goesL_ (some 91) rfl rfl Try.func19 (by kernel_rfl) rfl #[.agg #[.slice Ao119 t240.length co119, .slice Ao125 t243.length co125], .agg #[.slice Ao23 t195.length co23, .slice Ao26 t198.length co26]] rfl (by (try simp only [List.map_toArray, List.map_cons, List.map_nil]); first | done | rfl | (simp only [List.length_drop, List.length_take]; rfl)) ?_; (with_reducible refine (laws_eqVessels.calls kj65 _ _ t240 _ _ t243 _ _ t195 _ _ t198 true _ ?side1 ?side2 ?side3 ?side4 ?side5 ?side6 ?side7 ?side8 A126.out).mono ?_); (case side1 => refine (Kd.R_reads' (e := 3) (base := w.heap.size) (ok := fun k_ => ((((((((some k_ ≠ (.slice Ao125 t243.length co125 : Value).ownBlock ∧ some k_ ≠ (.slice Ao23 t195.length co23 : Value).ownBlock) ∧ some k_ ≠ (.slice Ao26 t198.length co26 : Value).ownBlock) ∧ some k_ ≠ (.slice Ao30 t227.length co30 : Value).ownBlock) ∧ some k_ ≠ (.slice Ao34 t228.length co34 : Value).ownBlock) ∧ some k_ ≠ (.slice Ao37 t210.length co37 : Value).ownBlock) ∧ some k_ ≠ (.slice Ao42 t213.length co42 : Value).ownBlock) ∧ some k_ ≠ (.slice Ao115 t234.length co115 : Value).ownBlock) ∧ some k_ ≠ (.slice Ao116 t237.length co116 : Value).ownBlock)) (n := t240.length) (c := co119) ?_).2.2; exact (by (with_reducible repeat (first | apply Kd.R_alloc | apply Kd.R_drewN | apply Kd.R_drew)); exact (Kd.R_mono (Kd.R_far (p := ⟨gb247, 1, none⟩) (Kd.R_far (p := ⟨gb247, 0, none⟩) (Kd.R_types HO242.out BK247.out (by decide)) (fun _ hk => hk.2) (.slice Ao119 t240.length co119)) (fun _ hk => hk.2) (.slice Ao125 t243.length co125)) (fun _ h_ => h_.1)))); (case side2 => exact (Kd.R_reads' HO242.out).2.1); (case side3 => refine (Kd.R_reads' (e := 3) (base := w.heap.size) (ok := fun k_ => ((((((((some k_ ≠ (.slice Ao119 t240.length co119 : Value).ownBlock ∧ some k_ ≠ (.slice Ao23 t195.length co23 : Value).ownBlock) ∧ some k_ ≠ (.slice Ao26 t198.length co26 : Value).ownBlock) ∧ some k_ ≠ (.slice Ao30 t227.length co30 : Value).ownBlock) ∧ some k_ ≠ (.slice Ao34 t228.length co34 : Value).ownBlock) ∧ some k_ ≠ (.slice Ao37 t210.length co37 : Value).ownBlock) ∧ some k_ ≠ (.slice Ao42 t213.length co42 : Value).ownBlock) ∧ some k_ ≠ (.slice Ao115 t234.length co115 : Value).ownBlock) ∧ some k_ ≠ (.slice Ao116 t237.length co116 : Value).ownBlock)) (n := t243.length) (c := co125) ?_).2.2; exact (by (with_reducible repeat (first | apply Kd.R_alloc | apply Kd.R_drewN | apply Kd.R_drew)); exact (Kd.R_mono (Kd.R_far (p := ⟨gb247, 1, none⟩) (Kd.R_far (p := ⟨gb247, 0, none⟩) (Kd.R_types HO245.out BK247.out (by decide)) (fun _ hk => hk.2) (.slice Ao119 t240.length co119)) (fun _ hk => hk.2) (.slice Ao125 t243.length co125)) (fun _ h_ => h_.1)))); (case side4 => exact (Kd.R_reads' HO245.out).2.1); (case side5 => refine (Kd.R_reads' (e := 3) (base := w.heap.size) (ok := fun k_ => (((((some k_ ≠ (.slice Ao26 t198.length co26 : Value).ownBlock ∧ (some k_ ≠ (.slice Ao30 t227.length co30 : Value).ownBlock ∧ (some k_ ≠ (.slice Ao34 t228.length co34 : Value).ownBlock ∧ (some k_ ≠ (.slice Ao37 t210.length co37 : Value).ownBlock ∧ some k_ ≠ (.slice Ao42 t213.length co42 : Value).ownBlock)))) ∧ some k_ ≠ (.slice Ao115 t234.length co115 : Value).ownBlock) ∧ some k_ ≠ (.slice Ao116 t237.length co116 : Value).ownBlock) ∧ some k_ ≠ (.slice Ao119 t240.length co119 : Value).ownBlock) ∧ some k_ ≠ (.slice Ao125 t243.length co125 : Value).ownBlock)) (n := t195.length) (c := co23) ?_).2.2; exact (by (with_reducible repeat (first | apply Kd.R_alloc | apply Kd.R_drewN | apply Kd.R_drew)); exact (Kd.R_mono (Kd.R_far (p := ⟨gb247, 1, none⟩) (Kd.R_far (p := ⟨gb247, 0, none⟩) (Kd.R_types HO_203000.out BK247.out (by decide)) (fun _ hk => hk.2) (.slice Ao119 t240.length co119)) (fun _ hk => hk.2) (.slice Ao125 t243.length co125)) (fun _ h_ => h_.1)))); (case side6 => exact (Kd.R_reads' HO_203000.out).2.1); (case side7 => refine (Kd.R_reads' (e := 3) (base := w.heap.size) (ok := fun k_ => (((((some k_ ≠ (.slice Ao23 t195.length co23 : Value).ownBlock ∧ (some k_ ≠ (.slice Ao30 t227.length co30 : Value).ownBlock ∧ (some k_ ≠ (.slice Ao34 t228.length co34 : Value).ownBlock ∧ (some k_ ≠ (.slice Ao37 t210.length co37 : Value).ownBlock ∧ some k_ ≠ (.slice Ao42 t213.length co42 : Value).ownBlock)))) ∧ some k_ ≠ (.slice Ao115 t234.length co115 : Value).ownBlock) ∧ some k_ ≠ (.slice Ao116 t237.length co116 : Value).ownBlock) ∧ some k_ ≠ (.slice Ao119 t240.length co119 : Value).ownBlock) ∧ some k_ ≠ (.slice Ao125 t243.length co125 : Value).ownBlock)) (n := t198.length) (c := co26) ?_).2.2; exact (by (with_reducible repeat (first | apply Kd.R_alloc | apply Kd.R_drewN | apply Kd.R_drew)); exact (Kd.R_mono (Kd.R_far (p := ⟨gb247, 1, none⟩) (Kd.R_far (p := ⟨gb247, 0, none⟩) (Kd.R_types HO_203001.out BK247.out (by decide)) (fun _ hk => hk.2) (.slice Ao119 t240.length co119)) (fun _ hk => hk.2) (.slice Ao125 t243.length co125)) (fun _ h_ => h_.1)))); (case side8 => exact (Kd.R_reads' HO_203001.out).2.1); rintro e w137 ⟨rfl, hb⟩; refine ⟨_, rfl, ?_⟩; have n0_ := Aside0.mk (Kd.R_below (by (with_reducible repeat (first | apply Kd.R_alloc | apply Kd.R_drewN | apply Kd.R_drew)); exact (Kd.R_mono (Kd.R_far (p := ⟨gb247, 1, none⟩) (Kd.R_far (p := ⟨gb247, 0, none⟩) (Kd.R_types HO_203000.out BK247.out (by decide)) (fun _ hk => hk.2) (.slice Ao119 t240.length co119)) (fun _ hk => hk.2) (.slice Ao125 t243.length co125)) (fun _ h_ => h_.1))) hb); have n1_ := Aside0.mk (Kd.R_below (by (with_reducible repeat (first | apply Kd.R_alloc | apply Kd.R_drewN | apply Kd.R_drew)); exact (Kd.R_mono (Kd.R_far (p := ⟨gb247, 1, none⟩) (Kd.R_far (p := ⟨gb247, 0, none⟩) (Kd.R_types HO_203001.out BK247.out (by decide)) (fun _ hk => hk.2) (.slice Ao119 t240.length co119)) (fun _ hk => hk.2) (.slice Ao125 t243.length co125)) (fun _ h_ => h_.1))) hb); have n2_ := Aside0.mk (Kd.R_below (by (with_reducible repeat (first | apply Kd.R_alloc | apply Kd.R_drewN | apply Kd.R_drew)); exact (Kd.R_mono (Kd.R_far (p := ⟨gb247, 1, none⟩) (Kd.R_far (p := ⟨gb247, 0, none⟩) (Kd.R_types HO_210000.out BK247.out (by decide)) (fun _ hk => hk.2) (.slice Ao119 t240.length co119)) (fun _ hk => hk.2) (.slice Ao125 t243.length co125)) (fun _ h_ => h_.1))) hb); have n3_ := Aside0.mk (Kd.R_below (by (with_reducible repeat (first | apply Kd.R_alloc | apply Kd.R_drewN | apply Kd.R_drew)); exact (Kd.R_mono (Kd.R_far (p := ⟨gb247, 1, none⟩) (Kd.R_far (p := ⟨gb247, 0, none⟩) (Kd.R_types HO_210001.out BK247.out (by decide)) (fun _ hk => hk.2) (.slice Ao119 t240.length co119)) (fun _ hk => hk.2) (.slice Ao125 t243.length co125)) (fun _ h_ => h_.1))) hb); have n4_ := Aside0.mk (Kd.R_below (by (with_reducible repeat (first | apply Kd.R_alloc | apply Kd.R_drewN | apply Kd.R_drew)); exact (Kd.R_mono (Kd.R_far (p := ⟨gb247, 1, none⟩) (Kd.R_far (p := ⟨gb247, 0, none⟩) (Kd.R_types HO_218000.out BK247.out (by decide)) (fun _ hk => hk.2) (.slice Ao119 t240.length co119)) (fun _ hk => hk.2) (.slice Ao125 t243.length co125)) (fun _ h_ => h_.1))) hb); have n5_ := Aside0.mk (Kd.R_below (by (with_reducible repeat (first | apply Kd.R_alloc | apply Kd.R_drewN | apply Kd.R_drew)); exact (Kd.R_mono (Kd.R_far (p := ⟨gb247, 1, none⟩) (Kd.R_far (p := ⟨gb247, 0, none⟩) (Kd.R_types HO_218001.out BK247.out (by decide)) (fun _ hk => hk.2) (.slice Ao119 t240.length co119)) (fun _ hk => hk.2) (.slice Ao125 t243.length co125)) (fun _ h_ => h_.1))) hb); have n6_ := Aside0.mk (Kd.R_below (by (with_reducible repeat (first | apply Kd.R_alloc | apply Kd.R_drewN | apply Kd.R_drew)); exact (Kd.R_mono (Kd.R_far (p := ⟨gb247, 1, none⟩) (Kd.R_far (p := ⟨gb247, 0, none⟩) (Kd.R_types HO236.out BK247.out (by decide)) (fun _ hk => hk.2) (.slice Ao119 t240.length co119)) (fun _ hk => hk.2) (.slice Ao125 t243.length co125)) (fun _ h_ => h_.1))) hb); have n7_ := Aside0.mk (Kd.R_below (by (with_reducible repeat (first | apply Kd.R_alloc | apply Kd.R_drewN | apply Kd.R_drew)); exact (Kd.R_mono (Kd.R_far (p := ⟨gb247, 1, none⟩) (Kd.R_far (p := ⟨gb247, 0, none⟩) (Kd.R_types HO239.out BK247.out (by decide)) (fun _ hk => hk.2) (.slice Ao119 t240.length co119)) (fun _ hk => hk.2) (.slice Ao125 t243.length co125)) (fun _ h_ => h_.1))) hb); have n8_ := Aside0.mk (Kd.R_below (by (with_reducible repeat (first | apply Kd.R_alloc | apply Kd.R_drewN | apply Kd.R_drew)); exact (Kd.R_mono (Kd.R_far (p := ⟨gb247, 1, none⟩) (Kd.R_far (p := ⟨gb247, 0, none⟩) (Kd.R_types HO242.out BK247.out (by decide)) (fun _ hk => hk.2) (.slice Ao119 t240.length co119)) (fun _ hk => hk.2) (.slice Ao125 t243.length co125)) (fun _ h_ => h_.1))) hb); have n9_ := Aside0.mk (Kd.R_below (by (with_reducible repeat (first | apply Kd.R_alloc | apply Kd.R_drewN | apply Kd.R_drew)); exact (Kd.R_mono (Kd.R_far (p := ⟨gb247, 1, none⟩) (Kd.R_far (p := ⟨gb247, 0, none⟩) (Kd.R_types HO245.out BK247.out (by decide)) (fun _ hk => hk.2) (.slice Ao119 t240.length co119)) (fun _ hk => hk.2) (.slice Ao125 t243.length co125)) (fun _ h_ => h_.1))) hb); have n10_ := Aside0.mk (blk_below (g := gb187) (o := .cells #[.slice A0_0 l0_0.length c0_0, .slice A0_1 l0_1.length c0_1] 24 (0, 0)) (xff NB187_247.out NB187_247.out BK187.out) hb); have n11_ := Aside0.mk (blk_below (g := gb202) (o := .cells #[.slice Ao23 t195.length co23, .slice Ao26 t198.length co26] 26 (0, 0)) (xff NB202_247.out NB202_247.out BK202.out) hb); have n12_ := Aside0.mk (blk_below (g := gb209) (o := .cells #[.slice Ao30 t227.length co30, .slice Ao34 t228.length co34] 26 (0, 0)) (xff NB209_247.out NB209_247.out BK209.out) hb); have n13_ := Aside0.mk (blk_below (g := gb217) (o := .cells #[.slice Ao37 t210.length co37, .slice Ao42 t213.length co42] 26 (0, 0)) (xff NB217_247.out NB217_247.out BK217.out) hb); have n14_ := Aside0.mk (blk_below (g := gb247) (o := .cells #[.slice Ao119 t240.length co119, .slice Ao125 t243.length co125] 26 (0, 0)) (by (with_reducible repeat (first | refine blk_drewN ?_ _ | refine blk_drew ?_ | refine blk_alloc ?_ _)); refine blk_put (cs := #[.slice Ao119 t240.length co119, .slice none 0 0]) ?_ 1 _ rfl; (with_reducible repeat (first | refine blk_drewN ?_ _ | refine blk_drew ?_ | refine blk_alloc ?_ _)); refine blk_put (cs := #[.slice none 0 0, .slice none 0 0]) ?_ 0 _ rfl; (with_reducible repeat (first | refine blk_drewN ?_ _ | refine blk_drew ?_ | refine blk_alloc ?_ _)); exact BK247.out) hb); have n15_ := Aside0.mk (below_step (xs HB.out) hb); clear HO_203000; clear HO_203001; clear HO_210000; clear HO_210001; clear HO_218000; clear HO_218001; clear HO236; clear HO239; clear HO242; clear HO245; clear BK187; clear BK202; clear BK209; clear BK217; clear BK247; clear HB; have HO_203000 := n0_; have HO_203001 := n1_; have HO_210000 := n2_; have HO_210001 := n3_; have HO_218000 := n4_; have HO_218001 := n5_; have HO236 := n6_; have HO239 := n7_; have HO242 := n8_; have HO245 := n9_; have BK187 := n10_; have BK202 := n11_; have BK209 := n12_; have BK217 := n13_; have BK247 := n14_; have HB := n15_; clear n0_ n1_ n2_ n3_ n4_ n5_ n6_ n7_ n8_ n9_ n10_ n11_ n12_ n13_ n14_ n15_; (try clear hb); (try clear hb2); (try clear hk); (try clear hi)))
                          go_meet
                          case rel => exact ⟨_, ((t246 != t201)), (by first | rfl | (simp; done) | (simp [*]; done)), H', ⟨by have := HJ12.out; have := HJ65.out; first | omega | exact Nat.le_refl _⟩, ⟨by (try simp only [hl210000_65]); (try simp only [hl210001_65]); (with_reducible repeat (first | apply Kd.R_alloc | apply Kd.R_drewN | apply Kd.R_drew)); exact Kd.R_mono HO_203000.out (fun _ hk => ⟨hk.1.1.1.1.1, ⟨hk.1.1.1.1.2.1, ⟨hk.1.1.1.1.2.2.1, ⟨hk.1.1.1.1.2.2.2.1, ⟨hk.1.1.1.1.2.2.2.2, ⟨hk.1.2, hk.2⟩⟩⟩⟩⟩⟩)⟩, ⟨by (try simp only [hl210000_65]); (try simp only [hl210001_65]); (with_reducible repeat (first | apply Kd.R_alloc | apply Kd.R_drewN | apply Kd.R_drew)); exact Kd.R_mono HO_203001.out (fun _ hk => ⟨hk.1.1.1.1.1, ⟨hk.1.1.1.1.2.1, ⟨hk.1.1.1.1.2.2.1, ⟨hk.1.1.1.1.2.2.2.1, ⟨hk.1.1.1.1.2.2.2.2, ⟨hk.1.2, hk.2⟩⟩⟩⟩⟩⟩)⟩, ⟨by (try simp only [hl210000_65]); (try simp only [hl210001_65]); (with_reducible repeat (first | apply Kd.R_alloc | apply Kd.R_drewN | apply Kd.R_drew)); exact Kd.R_mono HO_210000.out (fun _ hk => ⟨hk.1.1.1.1.1, ⟨hk.1.1.1.1.2.1, ⟨hk.1.1.1.1.2.2.1, ⟨hk.1.1.1.1.2.2.2.1, ⟨hk.1.1.1.1.2.2.2.2, ⟨hk.1.2, hk.2⟩⟩⟩⟩⟩⟩)⟩, ⟨by (try simp only [hl210000_65]); (try simp only [hl210001_65]); (with_reducible repeat (first | apply Kd.R_alloc | apply Kd.R_drewN | apply Kd.R_drew)); exact Kd.R_mono HO_210001.out (fun _ hk => ⟨hk.1.1.1.1.1, ⟨hk.1.1.1.1.2.1, ⟨hk.1.1.1.1.2.2.1, ⟨hk.1.1.1.1.2.2.2.1, ⟨hk.1.1.1.1.2.2.2.2, ⟨hk.1.2, hk.2⟩⟩⟩⟩⟩⟩)⟩, ⟨by (try simp only [hl210000_65]); (try simp only [hl210001_65]); (with_reducible repeat (first | apply Kd.R_alloc | apply Kd.R_drewN | apply Kd.R_drew)); exact Kd.R_mono HO_218000.out (fun _ hk => ⟨hk.1.1.1.1.1, ⟨hk.1.1.1.1.2.1, ⟨hk.1.1.1.1.2.2.1, ⟨hk.1.1.1.1.2.2.2.1, ⟨hk.1.1.1.1.2.2.2.2, ⟨hk.1.2, hk.2⟩⟩⟩⟩⟩⟩)⟩, ⟨by (try simp only [hl210000_65]); (try simp only [hl210001_65]); (with_reducible repeat (first | apply Kd.R_alloc | apply Kd.R_drewN | apply Kd.R_drew)); exact Kd.R_mono HO_218001.out (fun _ hk => ⟨hk.1.1.1.1.1, ⟨hk.1.1.1.1.2.1, ⟨hk.1.1.1.1.2.2.1, ⟨hk.1.1.1.1.2.2.2.1, ⟨hk.1.1.1.1.2.2.2.2, ⟨hk.1.2, hk.2⟩⟩⟩⟩⟩⟩)⟩, ⟨by (try simp only [hl210000_65]); (try simp only [hl210001_65]); (with_reducible repeat (first | apply Kd.R_alloc | apply Kd.R_drewN | apply Kd.R_drew)); exact Kd.R_mono HO242.out (fun _ hk => ⟨hk.1.1.1.1.1.1.1.2, ⟨hk.1.1.1.1.1.1.2, ⟨hk.1.1.1.1.1.2, ⟨hk.1.1.1.1.2, ⟨hk.1.1.1.2, ⟨hk.1.1.2, hk.1.1.1.1.1.1.1.1⟩⟩⟩⟩⟩⟩)⟩, ⟨by (try simp only [hl210000_65]); (try simp only [hl210001_65]); (with_reducible repeat (first | apply Kd.R_alloc | apply Kd.R_drewN | apply Kd.R_drew)); exact Kd.R_mono HO245.out (fun _ hk => ⟨hk.1.1.1.1.1.1.1.2, ⟨hk.1.1.1.1.1.1.2, ⟨hk.1.1.1.1.1.2, ⟨hk.1.1.1.1.2, ⟨hk.1.1.1.2, ⟨hk.1.1.2, hk.1.1.1.1.1.1.1.1⟩⟩⟩⟩⟩⟩)⟩, ⟨by (try simp only [hl210000_65]); (try simp only [hl210001_65]); (with_reducible repeat (first | refine blk_drewN ?_ _ | refine blk_drew ?_ | refine blk_alloc ?_ _)); exact BK187.out⟩, ⟨by (try simp only [hl210000_65]); (try simp only [hl210001_65]); (with_reducible repeat (first | refine blk_drewN ?_ _ | refine blk_drew ?_ | refine blk_alloc ?_ _)); exact BK202.out⟩, ⟨by (try simp only [hl210000_65]); (try simp only [hl210001_65]); (with_reducible repeat (first | refine blk_drewN ?_ _ | refine blk_drew ?_ | refine blk_alloc ?_ _)); exact BK209.out⟩, ⟨by (try simp only [hl210000_65]); (try simp only [hl210001_65]); (with_reducible repeat (first | refine blk_drewN ?_ _ | refine blk_drew ?_ | refine blk_alloc ?_ _)); exact BK217.out⟩, ⟨by (try simp only [hl210000_65]); (try simp only [hl210001_65]); (with_reducible repeat (first | refine blk_drewN ?_ _ | refine blk_drew ?_ | refine blk_alloc ?_ _)); exact BK247.out⟩, ⟨xs HB.out⟩⟩
                        · replace c127 := Bool.eq_false_iff.mpr c127
                          subst c127
                          have H1 : (laws_FnExactSwapVessels.j2 kj65 t230 true t231 t232) = some true := by first | (rw [if_neg (show ¬ (false = true) by decide)] at H; exact H) | rfl
                          clear H
                          have H := H1
                          clear H1
                          have H' := Aside0.mk H
                          clear H
                          have hnb138 := NB247_187.out
                          have hnc138 := NB187_247.out
                          have hnb139 := NB247_202.out
                          have hnc139 := NB202_247.out
                          have hnb140 := NB247_209.out
                          have hnc140 := NB209_247.out
                          have hnb141 := NB247_217.out
                          have hnc141 := NB217_247.out
                          have hcz142_0 : w118.cell? ⟨gb247, 0, none⟩ = some (.slice none 0 0) := (blk_cell BK247.out 0).trans rfl
                          have hcz142_1 : w118.cell? ⟨gb247, 1, none⟩ = some (.slice none 0 0) := (blk_cell BK247.out 1).trans rfl
                          have hfz142_0 := blk_frozen BK247.out 0
                          have hfz142_1 := blk_frozen BK247.out 1
                          have hnb143 := NB202_187.out
                          have hnc143 := NB187_202.out
                          have hnb144 := NB202_209.out
                          have hnc144 := NB209_202.out
                          have hnb145 := NB202_217.out
                          have hnc145 := NB217_202.out
                          have hcz146_0 : w118.cell? ⟨gb202, 0, none⟩ = some (.slice Ao23 t195.length co23) := (blk_cell BK202.out 0).trans rfl
                          have hcz146_1 : w118.cell? ⟨gb202, 1, none⟩ = some (.slice Ao26 t198.length co26) := (blk_cell BK202.out 1).trans rfl
                          have hfz146_0 := blk_frozen BK202.out 0
                          have hfz146_1 := blk_frozen BK202.out 1
                          go_wp2_with (first | ((with_reducible refine gate_callee (f := 19) rfl ?_); refine goesL_ (some 91) rfl rfl Try.func19 (by kernel_rfl) rfl #[.agg #[.slice Ao119 t240.length co119, .slice Ao125 t243.length co125], .agg #[.slice Ao23 t195.length co23, .slice Ao26 t198.length co26]] rfl (by (try simp only [List.map_toArray, List.map_cons, List.map_nil]); first | done | rfl | (simp only [List.length_drop, List.length_take]; rfl)) ?_; (with_reducible refine (laws_eqVessels.calls kj65 _ _ t240 _ _ t243 _ _ t195 _ _ t198 false _ ?side1 ?side2 ?side3 ?side4 ?side5 ?side6 ?side7 ?side8 A126.out).mono ?_); (case side1 => refine (Kd.R_reads' (e := 3) (base := w.heap.size) (ok := fun k_ => ((((((((some k_ ≠ (.slice Ao125 t243.length co125 : Value).ownBlock ∧ some k_ ≠ (.slice Ao23 t195.length co23 : Value).ownBlock) ∧ some k_ ≠ (.slice Ao26 t198.length co26 : Value).ownBlock) ∧ some k_ ≠ (.slice Ao30 t227.length co30 : Value).ownBlock) ∧ some k_ ≠ (.slice Ao34 t228.length co34 : Value).ownBlock) ∧ some k_ ≠ (.slice Ao37 t210.length co37 : Value).ownBlock) ∧ some k_ ≠ (.slice Ao42 t213.length co42 : Value).ownBlock) ∧ some k_ ≠ (.slice Ao115 t234.length co115 : Value).ownBlock) ∧ some k_ ≠ (.slice Ao116 t237.length co116 : Value).ownBlock)) (n := t240.length) (c := co119) ?_).2.2; exact (by (with_reducible repeat (first | apply Kd.R_alloc | apply Kd.R_drewN | apply Kd.R_drew)); exact (Kd.R_mono (Kd.R_far (p := ⟨gb247, 1, none⟩) (Kd.R_far (p := ⟨gb247, 0, none⟩) (Kd.R_types HO242.out BK247.out (by decide)) (fun _ hk => hk.2) (.slice Ao119 t240.length co119)) (fun _ hk => hk.2) (.slice Ao125 t243.length co125)) (fun _ h_ => h_.1)))); (case side2 => exact (Kd.R_reads' HO242.out).2.1); (case side3 => refine (Kd.R_reads' (e := 3) (base := w.heap.size) (ok := fun k_ => ((((((((some k_ ≠ (.slice Ao119 t240.length co119 : Value).ownBlock ∧ some k_ ≠ (.slice Ao23 t195.length co23 : Value).ownBlock) ∧ some k_ ≠ (.slice Ao26 t198.length co26 : Value).ownBlock) ∧ some k_ ≠ (.slice Ao30 t227.length co30 : Value).ownBlock) ∧ some k_ ≠ (.slice Ao34 t228.length co34 : Value).ownBlock) ∧ some k_ ≠ (.slice Ao37 t210.length co37 : Value).ownBlock) ∧ some k_ ≠ (.slice Ao42 t213.length co42 : Value).ownBlock) ∧ some k_ ≠ (.slice Ao115 t234.length co115 : Value).ownBlock) ∧ some k_ ≠ (.slice Ao116 t237.length co116 : Value).ownBlock)) (n := t243.length) (c := co125) ?_).2.2; exact (by (with_reducible repeat (first | apply Kd.R_alloc | apply Kd.R_drewN | apply Kd.R_drew)); exact (Kd.R_mono (Kd.R_far (p := ⟨gb247, 1, none⟩) (Kd.R_far (p := ⟨gb247, 0, none⟩) (Kd.R_types HO245.out BK247.out (by decide)) (fun _ hk => hk.2) (.slice Ao119 t240.length co119)) (fun _ hk => hk.2) (.slice Ao125 t243.length co125)) (fun _ h_ => h_.1)))); (case side4 => exact (Kd.R_reads' HO245.out).2.1); (case side5 => refine (Kd.R_reads' (e := 3) (base := w.heap.size) (ok := fun k_ => (((((some k_ ≠ (.slice Ao26 t198.length co26 : Value).ownBlock ∧ (some k_ ≠ (.slice Ao30 t227.length co30 : Value).ownBlock ∧ (some k_ ≠ (.slice Ao34 t228.length co34 : Value).ownBlock ∧ (some k_ ≠ (.slice Ao37 t210.length co37 : Value).ownBlock ∧ some k_ ≠ (.slice Ao42 t213.length co42 : Value).ownBlock)))) ∧ some k_ ≠ (.slice Ao115 t234.length co115 : Value).ownBlock) ∧ some k_ ≠ (.slice Ao116 t237.length co116 : Value).ownBlock) ∧ some k_ ≠ (.slice Ao119 t240.length co119 : Value).ownBlock) ∧ some k_ ≠ (.slice Ao125 t243.length co125 : Value).ownBlock)) (n := t195.length) (c := co23) ?_).2.2; exact (by (with_reducible repeat (first | apply Kd.R_alloc | apply Kd.R_drewN | apply Kd.R_drew)); exact (Kd.R_mono (Kd.R_far (p := ⟨gb247, 1, none⟩) (Kd.R_far (p := ⟨gb247, 0, none⟩) (Kd.R_types HO_203000.out BK247.out (by decide)) (fun _ hk => hk.2) (.slice Ao119 t240.length co119)) (fun _ hk => hk.2) (.slice Ao125 t243.length co125)) (fun _ h_ => h_.1)))); (case side6 => exact (Kd.R_reads' HO_203000.out).2.1); (case side7 => refine (Kd.R_reads' (e := 3) (base := w.heap.size) (ok := fun k_ => (((((some k_ ≠ (.slice Ao23 t195.length co23 : Value).ownBlock ∧ (some k_ ≠ (.slice Ao30 t227.length co30 : Value).ownBlock ∧ (some k_ ≠ (.slice Ao34 t228.length co34 : Value).ownBlock ∧ (some k_ ≠ (.slice Ao37 t210.length co37 : Value).ownBlock ∧ some k_ ≠ (.slice Ao42 t213.length co42 : Value).ownBlock)))) ∧ some k_ ≠ (.slice Ao115 t234.length co115 : Value).ownBlock) ∧ some k_ ≠ (.slice Ao116 t237.length co116 : Value).ownBlock) ∧ some k_ ≠ (.slice Ao119 t240.length co119 : Value).ownBlock) ∧ some k_ ≠ (.slice Ao125 t243.length co125 : Value).ownBlock)) (n := t198.length) (c := co26) ?_).2.2; exact (by (with_reducible repeat (first | apply Kd.R_alloc | apply Kd.R_drewN | apply Kd.R_drew)); exact (Kd.R_mono (Kd.R_far (p := ⟨gb247, 1, none⟩) (Kd.R_far (p := ⟨gb247, 0, none⟩) (Kd.R_types HO_203001.out BK247.out (by decide)) (fun _ hk => hk.2) (.slice Ao119 t240.length co119)) (fun _ hk => hk.2) (.slice Ao125 t243.length co125)) (fun _ h_ => h_.1)))); (case side8 => exact (Kd.R_reads' HO_203001.out).2.1); rintro e w147 ⟨rfl, hb⟩; refine ⟨_, rfl, ?_⟩; have n0_ := Aside0.mk (Kd.R_below (by (with_reducible repeat (first | apply Kd.R_alloc | apply Kd.R_drewN | apply Kd.R_drew)); exact (Kd.R_mono (Kd.R_far (p := ⟨gb247, 1, none⟩) (Kd.R_far (p := ⟨gb247, 0, none⟩) (Kd.R_types HO_203000.out BK247.out (by decide)) (fun _ hk => hk.2) (.slice Ao119 t240.length co119)) (fun _ hk => hk.2) (.slice Ao125 t243.length co125)) (fun _ h_ => h_.1))) hb); have n1_ := Aside0.mk (Kd.R_below (by (with_reducible repeat (first | apply Kd.R_alloc | apply Kd.R_drewN | apply Kd.R_drew)); exact (Kd.R_mono (Kd.R_far (p := ⟨gb247, 1, none⟩) (Kd.R_far (p := ⟨gb247, 0, none⟩) (Kd.R_types HO_203001.out BK247.out (by decide)) (fun _ hk => hk.2) (.slice Ao119 t240.length co119)) (fun _ hk => hk.2) (.slice Ao125 t243.length co125)) (fun _ h_ => h_.1))) hb); have n2_ := Aside0.mk (Kd.R_below (by (with_reducible repeat (first | apply Kd.R_alloc | apply Kd.R_drewN | apply Kd.R_drew)); exact (Kd.R_mono (Kd.R_far (p := ⟨gb247, 1, none⟩) (Kd.R_far (p := ⟨gb247, 0, none⟩) (Kd.R_types HO_210000.out BK247.out (by decide)) (fun _ hk => hk.2) (.slice Ao119 t240.length co119)) (fun _ hk => hk.2) (.slice Ao125 t243.length co125)) (fun _ h_ => h_.1))) hb); have n3_ := Aside0.mk (Kd.R_below (by (with_reducible repeat (first | apply Kd.R_alloc | apply Kd.R_drewN | apply Kd.R_drew)); exact (Kd.R_mono (Kd.R_far (p := ⟨gb247, 1, none⟩) (Kd.R_far (p := ⟨gb247, 0, none⟩) (Kd.R_types HO_210001.out BK247.out (by decide)) (fun _ hk => hk.2) (.slice Ao119 t240.length co119)) (fun _ hk => hk.2) (.slice Ao125 t243.length co125)) (fun _ h_ => h_.1))) hb); have n4_ := Aside0.mk (Kd.R_below (by (with_reducible repeat (first | apply Kd.R_alloc | apply Kd.R_drewN | apply Kd.R_drew)); exact (Kd.R_mono (Kd.R_far (p := ⟨gb247, 1, none⟩) (Kd.R_far (p := ⟨gb247, 0, none⟩) (Kd.R_types HO_218000.out BK247.out (by decide)) (fun _ hk => hk.2) (.slice Ao119 t240.length co119)) (fun _ hk => hk.2) (.slice Ao125 t243.length co125)) (fun _ h_ => h_.1))) hb); have n5_ := Aside0.mk (Kd.R_below (by (with_reducible repeat (first | apply Kd.R_alloc | apply Kd.R_drewN | apply Kd.R_drew)); exact (Kd.R_mono (Kd.R_far (p := ⟨gb247, 1, none⟩) (Kd.R_far (p := ⟨gb247, 0, none⟩) (Kd.R_types HO_218001.out BK247.out (by decide)) (fun _ hk => hk.2) (.slice Ao119 t240.length co119)) (fun _ hk => hk.2) (.slice Ao125 t243.length co125)) (fun _ h_ => h_.1))) hb); have n6_ := Aside0.mk (Kd.R_below (by (with_reducible repeat (first | apply Kd.R_alloc | apply Kd.R_drewN | apply Kd.R_drew)); exact (Kd.R_mono (Kd.R_far (p := ⟨gb247, 1, none⟩) (Kd.R_far (p := ⟨gb247, 0, none⟩) (Kd.R_types HO236.out BK247.out (by decide)) (fun _ hk => hk.2) (.slice Ao119 t240.length co119)) (fun _ hk => hk.2) (.slice Ao125 t243.length co125)) (fun _ h_ => h_.1))) hb); have n7_ := Aside0.mk (Kd.R_below (by (with_reducible repeat (first | apply Kd.R_alloc | apply Kd.R_drewN | apply Kd.R_drew)); exact (Kd.R_mono (Kd.R_far (p := ⟨gb247, 1, none⟩) (Kd.R_far (p := ⟨gb247, 0, none⟩) (Kd.R_types HO239.out BK247.out (by decide)) (fun _ hk => hk.2) (.slice Ao119 t240.length co119)) (fun _ hk => hk.2) (.slice Ao125 t243.length co125)) (fun _ h_ => h_.1))) hb); have n8_ := Aside0.mk (Kd.R_below (by (with_reducible repeat (first | apply Kd.R_alloc | apply Kd.R_drewN | apply Kd.R_drew)); exact (Kd.R_mono (Kd.R_far (p := ⟨gb247, 1, none⟩) (Kd.R_far (p := ⟨gb247, 0, none⟩) (Kd.R_types HO242.out BK247.out (by decide)) (fun _ hk => hk.2) (.slice Ao119 t240.length co119)) (fun _ hk => hk.2) (.slice Ao125 t243.length co125)) (fun _ h_ => h_.1))) hb); have n9_ := Aside0.mk (Kd.R_below (by (with_reducible repeat (first | apply Kd.R_alloc | apply Kd.R_drewN | apply Kd.R_drew)); exact (Kd.R_mono (Kd.R_far (p := ⟨gb247, 1, none⟩) (Kd.R_far (p := ⟨gb247, 0, none⟩) (Kd.R_types HO245.out BK247.out (by decide)) (fun _ hk => hk.2) (.slice Ao119 t240.length co119)) (fun _ hk => hk.2) (.slice Ao125 t243.length co125)) (fun _ h_ => h_.1))) hb); have n10_ := Aside0.mk (blk_below (g := gb187) (o := .cells #[.slice A0_0 l0_0.length c0_0, .slice A0_1 l0_1.length c0_1] 24 (0, 0)) (xff NB187_247.out NB187_247.out BK187.out) hb); have n11_ := Aside0.mk (blk_below (g := gb202) (o := .cells #[.slice Ao23 t195.length co23, .slice Ao26 t198.length co26] 26 (0, 0)) (xff NB202_247.out NB202_247.out BK202.out) hb); have n12_ := Aside0.mk (blk_below (g := gb209) (o := .cells #[.slice Ao30 t227.length co30, .slice Ao34 t228.length co34] 26 (0, 0)) (xff NB209_247.out NB209_247.out BK209.out) hb); have n13_ := Aside0.mk (blk_below (g := gb217) (o := .cells #[.slice Ao37 t210.length co37, .slice Ao42 t213.length co42] 26 (0, 0)) (xff NB217_247.out NB217_247.out BK217.out) hb); have n14_ := Aside0.mk (blk_below (g := gb247) (o := .cells #[.slice Ao119 t240.length co119, .slice Ao125 t243.length co125] 26 (0, 0)) (by (with_reducible repeat (first | refine blk_drewN ?_ _ | refine blk_drew ?_ | refine blk_alloc ?_ _)); refine blk_put (cs := #[.slice Ao119 t240.length co119, .slice none 0 0]) ?_ 1 _ rfl; (with_reducible repeat (first | refine blk_drewN ?_ _ | refine blk_drew ?_ | refine blk_alloc ?_ _)); refine blk_put (cs := #[.slice none 0 0, .slice none 0 0]) ?_ 0 _ rfl; (with_reducible repeat (first | refine blk_drewN ?_ _ | refine blk_drew ?_ | refine blk_alloc ?_ _)); exact BK247.out) hb); have n15_ := Aside0.mk (below_step (xs HB.out) hb); clear HO_203000; clear HO_203001; clear HO_210000; clear HO_210001; clear HO_218000; clear HO_218001; clear HO236; clear HO239; clear HO242; clear HO245; clear BK187; clear BK202; clear BK209; clear BK217; clear BK247; clear HB; have HO_203000 := n0_; have HO_203001 := n1_; have HO_210000 := n2_; have HO_210001 := n3_; have HO_218000 := n4_; have HO_218001 := n5_; have HO236 := n6_; have HO239 := n7_; have HO242 := n8_; have HO245 := n9_; have BK187 := n10_; have BK202 := n11_; have BK209 := n12_; have BK217 := n13_; have BK247 := n14_; have HB := n15_; clear n0_ n1_ n2_ n3_ n4_ n5_ n6_ n7_ n8_ n9_ n10_ n11_ n12_ n13_ n14_ n15_; (try clear hb); (try clear hb2); (try clear hk); (try clear hi)))
                          go_meet
                          case rel => exact ⟨_, (true), (by first | rfl | (simp; done) | (simp [*]; done)), H', ⟨by have := HJ12.out; have := HJ65.out; first | omega | exact Nat.le_refl _⟩, ⟨by (try simp only [hl210000_65]); (try simp only [hl210001_65]); (with_reducible repeat (first | apply Kd.R_alloc | apply Kd.R_drewN | apply Kd.R_drew)); exact Kd.R_mono HO_203000.out (fun _ hk => ⟨hk.1.1.1.1.1, ⟨hk.1.1.1.1.2.1, ⟨hk.1.1.1.1.2.2.1, ⟨hk.1.1.1.1.2.2.2.1, ⟨hk.1.1.1.1.2.2.2.2, ⟨hk.1.2, hk.2⟩⟩⟩⟩⟩⟩)⟩, ⟨by (try simp only [hl210000_65]); (try simp only [hl210001_65]); (with_reducible repeat (first | apply Kd.R_alloc | apply Kd.R_drewN | apply Kd.R_drew)); exact Kd.R_mono HO_203001.out (fun _ hk => ⟨hk.1.1.1.1.1, ⟨hk.1.1.1.1.2.1, ⟨hk.1.1.1.1.2.2.1, ⟨hk.1.1.1.1.2.2.2.1, ⟨hk.1.1.1.1.2.2.2.2, ⟨hk.1.2, hk.2⟩⟩⟩⟩⟩⟩)⟩, ⟨by (try simp only [hl210000_65]); (try simp only [hl210001_65]); (with_reducible repeat (first | apply Kd.R_alloc | apply Kd.R_drewN | apply Kd.R_drew)); exact Kd.R_mono HO_210000.out (fun _ hk => ⟨hk.1.1.1.1.1, ⟨hk.1.1.1.1.2.1, ⟨hk.1.1.1.1.2.2.1, ⟨hk.1.1.1.1.2.2.2.1, ⟨hk.1.1.1.1.2.2.2.2, ⟨hk.1.2, hk.2⟩⟩⟩⟩⟩⟩)⟩, ⟨by (try simp only [hl210000_65]); (try simp only [hl210001_65]); (with_reducible repeat (first | apply Kd.R_alloc | apply Kd.R_drewN | apply Kd.R_drew)); exact Kd.R_mono HO_210001.out (fun _ hk => ⟨hk.1.1.1.1.1, ⟨hk.1.1.1.1.2.1, ⟨hk.1.1.1.1.2.2.1, ⟨hk.1.1.1.1.2.2.2.1, ⟨hk.1.1.1.1.2.2.2.2, ⟨hk.1.2, hk.2⟩⟩⟩⟩⟩⟩)⟩, ⟨by (try simp only [hl210000_65]); (try simp only [hl210001_65]); (with_reducible repeat (first | apply Kd.R_alloc | apply Kd.R_drewN | apply Kd.R_drew)); exact Kd.R_mono HO_218000.out (fun _ hk => ⟨hk.1.1.1.1.1, ⟨hk.1.1.1.1.2.1, ⟨hk.1.1.1.1.2.2.1, ⟨hk.1.1.1.1.2.2.2.1, ⟨hk.1.1.1.1.2.2.2.2, ⟨hk.1.2, hk.2⟩⟩⟩⟩⟩⟩)⟩, ⟨by (try simp only [hl210000_65]); (try simp only [hl210001_65]); (with_reducible repeat (first | apply Kd.R_alloc | apply Kd.R_drewN | apply Kd.R_drew)); exact Kd.R_mono HO_218001.out (fun _ hk => ⟨hk.1.1.1.1.1, ⟨hk.1.1.1.1.2.1, ⟨hk.1.1.1.1.2.2.1, ⟨hk.1.1.1.1.2.2.2.1, ⟨hk.1.1.1.1.2.2.2.2, ⟨hk.1.2, hk.2⟩⟩⟩⟩⟩⟩)⟩, ⟨by (try simp only [hl210000_65]); (try simp only [hl210001_65]); (with_reducible repeat (first | apply Kd.R_alloc | apply Kd.R_drewN | apply Kd.R_drew)); exact Kd.R_mono HO242.out (fun _ hk => ⟨hk.1.1.1.1.1.1.1.2, ⟨hk.1.1.1.1.1.1.2, ⟨hk.1.1.1.1.1.2, ⟨hk.1.1.1.1.2, ⟨hk.1.1.1.2, ⟨hk.1.1.2, hk.1.1.1.1.1.1.1.1⟩⟩⟩⟩⟩⟩)⟩, ⟨by (try simp only [hl210000_65]); (try simp only [hl210001_65]); (with_reducible repeat (first | apply Kd.R_alloc | apply Kd.R_drewN | apply Kd.R_drew)); exact Kd.R_mono HO245.out (fun _ hk => ⟨hk.1.1.1.1.1.1.1.2, ⟨hk.1.1.1.1.1.1.2, ⟨hk.1.1.1.1.1.2, ⟨hk.1.1.1.1.2, ⟨hk.1.1.1.2, ⟨hk.1.1.2, hk.1.1.1.1.1.1.1.1⟩⟩⟩⟩⟩⟩)⟩, ⟨by (try simp only [hl210000_65]); (try simp only [hl210001_65]); (with_reducible repeat (first | refine blk_drewN ?_ _ | refine blk_drew ?_ | refine blk_alloc ?_ _)); exact BK187.out⟩, ⟨by (try simp only [hl210000_65]); (try simp only [hl210001_65]); (with_reducible repeat (first | refine blk_drewN ?_ _ | refine blk_drew ?_ | refine blk_alloc ?_ _)); exact BK202.out⟩, ⟨by (try simp only [hl210000_65]); (try simp only [hl210001_65]); (with_reducible repeat (first | refine blk_drewN ?_ _ | refine blk_drew ?_ | refine blk_alloc ?_ _)); exact BK209.out⟩, ⟨by (try simp only [hl210000_65]); (try simp only [hl210001_65]); (with_reducible repeat (first | refine blk_drewN ?_ _ | refine blk_drew ?_ | refine blk_alloc ?_ _)); exact BK217.out⟩, ⟨by (try simp only [hl210000_65]); (try simp only [hl210001_65]); (with_reducible repeat (first | refine blk_drewN ?_ _ | refine blk_drew ?_ | refine blk_alloc ?_ _)); exact BK247.out⟩, ⟨xs HB.out⟩⟩
                      case rest =>
                        clear HC103
                        try clear c1
                        try clear c2
                        try clear p2
                        try clear c3
                        try clear c4
                        try clear c5
                        try clear c5b0
                        try clear c6
                        try clear c7
                        try clear c8
                        try clear c9
                        try clear c10
                        try clear c11
                        try clear c12
                        try clear c13
                        try clear c14
                        try clear c15
                        try clear c16
                        try clear c17
                        try clear c18
                        try clear c19
                        try clear c20
                        try clear c21
                        try clear c24
                        try clear c31
                        try clear c32
                        try clear c38
                        try clear c39
                        try clear c40
                        try clear c44
                        try clear c45
                        try clear c46
                        try clear c47
                        try clear c49
                        try clear c50
                        try clear c53
                        try clear c54
                        try clear c55
                        try clear c57
                        try clear c58
                        try clear c61
                        try clear c64
                        try clear c72
                        try clear c73
                        try clear c74
                        try clear c77
                        try clear c77b0
                        try clear c79
                        try clear c80
                        try clear c81
                        try clear c82
                        try clear c84
                        try clear c85
                        try clear c88
                        try clear c89
                        try clear c90
                        try clear c92
                        try clear c93
                        try clear c96
                        try clear c99
                        try clear c99b0
                        try clear c100
                        try clear c100b0
                        try clear c100b1
                        try clear c104
                        try clear c105
                        try clear c106
                        try clear c111
                        try clear c112
                        try clear c120
                        try clear c121
                        try clear c122
                        try clear c123
                        try clear c127
                        try clear c128
                        try clear c129
                        try clear c130
                        try clear c131
                        try clear c133
                        try clear c134
                        try clear c135
                        try clear c138
                        try clear c139
                        try clear c140
                        try clear c141
                        try clear c143
                        try clear c144
                        try clear c145
                        try clear hcz107_0
                        try clear hcz107_1
                        try clear hcz109_0
                        try clear hcz109_1
                        try clear hcz113_0
                        try clear hcz113_1
                        try clear hcz124_0
                        try clear hcz124_1
                        try clear hcz132_0
                        try clear hcz132_1
                        try clear hcz136_0
                        try clear hcz136_1
                        try clear hcz142_0
                        try clear hcz142_1
                        try clear hcz146_0
                        try clear hcz146_1
                        try clear hcz15_0
                        try clear hcz15_1
                        try clear hcz17_0
                        try clear hcz17_1
                        try clear hcz25_0
                        try clear hcz25_1
                        try clear hcz27_0
                        try clear hcz27_1
                        try clear hcz33_0
                        try clear hcz33_1
                        try clear hcz41_0
                        try clear hcz41_1
                        try clear hcz48_0
                        try clear hcz48_1
                        try clear hcz51_0
                        try clear hcz51_1
                        try clear hcz56_0
                        try clear hcz56_1
                        try clear hcz59_0
                        try clear hcz59_1
                        try clear hcz75_0
                        try clear hcz75_1
                        try clear hcz7_0
                        try clear hcz7_1
                        try clear hcz83_0
                        try clear hcz83_1
                        try clear hcz86_0
                        try clear hcz86_1
                        try clear hcz91_0
                        try clear hcz91_1
                        try clear hcz94_0
                        try clear hcz94_1
                        try clear hfz107_0
                        try clear hfz107_1
                        try clear hfz109_0
                        try clear hfz109_1
                        try clear hfz113_0
                        try clear hfz113_1
                        try clear hfz124_0
                        try clear hfz124_1
                        try clear hfz132_0
                        try clear hfz132_1
                        try clear hfz136_0
                        try clear hfz136_1
                        try clear hfz142_0
                        try clear hfz142_1
                        try clear hfz146_0
                        try clear hfz146_1
                        try clear hfz15_0
                        try clear hfz15_1
                        try clear hfz17_0
                        try clear hfz17_1
                        try clear hfz25_0
                        try clear hfz25_1
                        try clear hfz27_0
                        try clear hfz27_1
                        try clear hfz33_0
                        try clear hfz33_1
                        try clear hfz41_0
                        try clear hfz41_1
                        try clear hfz48_0
                        try clear hfz48_1
                        try clear hfz51_0
                        try clear hfz51_1
                        try clear hfz56_0
                        try clear hfz56_1
                        try clear hfz59_0
                        try clear hfz59_1
                        try clear hfz75_0
                        try clear hfz75_1
                        try clear hfz7_0
                        try clear hfz7_1
                        try clear hfz83_0
                        try clear hfz83_1
                        try clear hfz86_0
                        try clear hfz86_1
                        try clear hfz91_0
                        try clear hfz91_1
                        try clear hfz94_0
                        try clear hfz94_1
                        try clear p2
                        obtain ⟨kq, x97_102, rfl, HA, HJ102, HO_203000, HO_203001, HO_210000, HO_210001, HO_218000, HO_218001, HO_248000, HO_248001, BK187, BK202, BK209, BK217, BK247, HB⟩ := hcut
                        have hl218000_102 := (Kd.R_reads' HO_218000.out).1
                        rw [hl218000_102] at HO_218000
                        (try simp only [hl218000_102])
                        (try simp only [hl218000_102] at BK187)
                        (try simp only [hl218000_102] at BK202)
                        (try simp only [hl218000_102] at BK209)
                        (try simp only [hl218000_102] at BK217)
                        (try simp only [hl218000_102] at BK247)
                        (try simp only [hl218000_102] at HO_203000)
                        (try simp only [hl218000_102] at HO_203001)
                        (try simp only [hl218000_102] at HO_210000)
                        (try simp only [hl218000_102] at HO_210001)
                        (try simp only [hl218000_102] at HO_218001)
                        (try simp only [hl218000_102] at HO_248000)
                        (try simp only [hl218000_102] at HO_248001)
                        have hl218001_102 := (Kd.R_reads' HO_218001.out).1
                        rw [hl218001_102] at HO_218001
                        (try simp only [hl218001_102])
                        (try simp only [hl218001_102] at BK187)
                        (try simp only [hl218001_102] at BK202)
                        (try simp only [hl218001_102] at BK209)
                        (try simp only [hl218001_102] at BK217)
                        (try simp only [hl218001_102] at BK247)
                        (try simp only [hl218001_102] at HO_203000)
                        (try simp only [hl218001_102] at HO_203001)
                        (try simp only [hl218001_102] at HO_210000)
                        (try simp only [hl218001_102] at HO_210001)
                        (try simp only [hl218001_102] at HO_218000)
                        (try simp only [hl218001_102] at HO_248000)
                        (try simp only [hl218001_102] at HO_248001)
                        cases kq with
                        | zero => exact absurd HA.out (by simp [laws_FnExactSwapVessels.j2])
                        | succ kj102 =>
                          have H := HA.out
                          clear HA
                          simp only [laws_FnExactSwapVessels.j2] at H
                          by_cases c148 : x97_102 = true
                          · subst c148
                            have H1 : (some false) = some true := by first | (rw [if_pos rfl] at H; exact H) | rfl
                            clear H
                            have H := H1
                            clear H1
                            exact absurd H (by simp)
                          · replace c148 := Bool.eq_false_iff.mpr c148
                            subst c148
                            have H1 : ((laws_heldVessels.f kj102 t231 t232 1).bind fun t249 => (if t249 < 0 then (some false) else (if t249 = t230 then (some true) else (some false)))) = some true := by first | (rw [if_neg (show ¬ (false = true) by decide)] at H; exact H) | rfl
                            clear H
                            have H := H1
                            clear H1
                            replace H := Option.bind_eq_some_iff.mp H
                            obtain ⟨t249, A1490, H⟩ := H
                            replace H : (if t249 < 0 then (some false) else (if t249 = t230 then (some true) else (some false))) = some true := H
                            have A149 := Aside0.mk A1490
                            clear A1490
                            by_cases c150 : t249 < 0
                            · rw [if_pos c150] at H
                              have c150b0 : decide (t249 < 0) = true := decide_eq_true c150
                              clear c150
                              exact absurd H (by simp)
                            · rw [if_neg c150] at H
                              have c150b0 : decide (t249 < 0) = false := decide_eq_false c150
                              clear c150
                              by_cases c151 : t249 = t230
                              · rw [if_pos c151] at H
                                have c151b0 : (t249 == t230) = true := beq_iff_eq.mpr c151
                                have c151b1 : (t249 != t230) = false := bne_eq_false_iff_eq.mpr c151
                                clear c151
                                clear H
                                have hnb152 := NB217_187.out
                                have hnc152 := NB187_217.out
                                have hnb153 := NB217_202.out
                                have hnc153 := NB202_217.out
                                have hnb154 := NB217_209.out
                                have hnc154 := NB209_217.out
                                have hnb155 := NB217_247.out
                                have hnc155 := NB247_217.out
                                have hcz156_0 : wc.cell? ⟨gb217, 0, none⟩ = some (.slice Ao37 t231.length co37) := (blk_cell BK217.out 0).trans rfl
                                have hcz156_1 : wc.cell? ⟨gb217, 1, none⟩ = some (.slice Ao42 t232.length co42) := (blk_cell BK217.out 1).trans rfl
                                have hfz156_0 := blk_frozen BK217.out 0
                                have hfz156_1 := blk_frozen BK217.out 1
                                go_wp2_with (first | ((with_reducible refine gate_callee (f := 21) rfl ?_); refine goesL_ (some 100) rfl rfl Try.func21 (by kernel_rfl) rfl #[.agg #[.slice Ao37 t231.length co37, .slice Ao42 t232.length co42], .int .i64 1] rfl (by (try simp only [List.map_toArray, List.map_cons, List.map_nil]); first | done | rfl | (simp only [List.length_drop, List.length_take]; rfl)) ?_; (with_reducible refine (laws_heldVessels.calls kj102 _ _ t231 _ _ t232 1 t249 _ ?side1 ?side2 ?side3 ?side4 A149.out).mono ?_); (case side1 => repeat (first | exact (Kd.R_reads' HO_218000.out).2.2 | (with_reducible refine Kd.C_alloc ?_ _) | (with_reducible refine Kd.C_drewN ?_ _) | (with_reducible refine Kd.C_drew ?_))); (case side2 => exact (Kd.R_reads' HO_218000.out).2.1); (case side3 => repeat (first | exact (Kd.R_reads' HO_218001.out).2.2 | (with_reducible refine Kd.C_alloc ?_ _) | (with_reducible refine Kd.C_drewN ?_ _) | (with_reducible refine Kd.C_drew ?_))); (case side4 => exact (Kd.R_reads' HO_218001.out).2.1); rintro e w157 ⟨rfl, hb⟩; refine ⟨_, rfl, ?_⟩; have n0_ := Aside0.mk (Kd.R_below (xr HO_203000.out) hb); have n1_ := Aside0.mk (Kd.R_below (xr HO_203001.out) hb); have n2_ := Aside0.mk (Kd.R_below (xr HO_210000.out) hb); have n3_ := Aside0.mk (Kd.R_below (xr HO_210001.out) hb); have n4_ := Aside0.mk (Kd.R_below (xr HO_218000.out) hb); have n5_ := Aside0.mk (Kd.R_below (xr HO_218001.out) hb); have n6_ := Aside0.mk (Kd.R_below (xr HO_248000.out) hb); have n7_ := Aside0.mk (Kd.R_below (xr HO_248001.out) hb); have n8_ := Aside0.mk (blk_below (g := gb187) (o := .cells #[.slice A0_0 l0_0.length c0_0, .slice A0_1 l0_1.length c0_1] 24 (0, 0)) (xb BK187.out) hb); have n9_ := Aside0.mk (blk_below (g := gb202) (o := .cells #[.slice Ao23 t195.length co23, .slice Ao26 t198.length co26] 26 (0, 0)) (xb BK202.out) hb); have n10_ := Aside0.mk (blk_below (g := gb209) (o := .cells #[.slice Ao30 t227.length co30, .slice Ao34 t228.length co34] 26 (0, 0)) (xb BK209.out) hb); have n11_ := Aside0.mk (blk_below (g := gb217) (o := .cells #[.slice Ao37 t231.length co37, .slice Ao42 t232.length co42] 26 (0, 0)) (xb BK217.out) hb); have n12_ := Aside0.mk (blk_below (g := gb247) (o := .cells #[.slice Ao119 t240.length co119, .slice Ao125 t243.length co125] 26 (0, 0)) (xb BK247.out) hb); have n13_ := Aside0.mk (below_step (xs HB.out) hb); clear HO_203000; clear HO_203001; clear HO_210000; clear HO_210001; clear HO_218000; clear HO_218001; clear HO_248000; clear HO_248001; clear BK187; clear BK202; clear BK209; clear BK217; clear BK247; clear HB; have HO_203000 := n0_; have HO_203001 := n1_; have HO_210000 := n2_; have HO_210001 := n3_; have HO_218000 := n4_; have HO_218001 := n5_; have HO_248000 := n6_; have HO_248001 := n7_; have BK187 := n8_; have BK202 := n9_; have BK209 := n10_; have BK217 := n11_; have BK247 := n12_; have HB := n13_; clear n0_ n1_ n2_ n3_ n4_ n5_ n6_ n7_ n8_ n9_ n10_ n11_ n12_ n13_; (try clear hb); (try clear hb2); (try clear hk); (try clear hi)))
                                go_ret
                                exact ⟨by first | rfl | (simp [errW_none, errW_some] <;> rfl) | (simp [*, errW_none, errW_some] <;> rfl), by repeat (first | (with_reducible first | exact HB.out | apply below_alloc | apply pw_below_drewN | apply below_drew1 | refine below_set ?_ GE187.out | refine below_set ?_ GE202.out | refine below_set ?_ GE209.out | refine below_set ?_ GE217.out | refine below_set ?_ GE247.out) | exact HB.out)⟩
                              · rw [if_neg c151] at H
                                have c151b0 : (t249 == t230) = false := beq_eq_false_iff_ne.mpr c151
                                have c151b1 : (t249 != t230) = true := bne_iff_ne.mpr c151
                                exact absurd H (by simp)
                    · rw [if_neg c100] at H
                      have c100b0 : (t233 == t230) = false := beq_eq_false_iff_ne.mpr c100
                      have c100b1 : (t233 != t230) = true := bne_iff_ne.mpr c100
                      exact absurd H (by simp)
          · replace c64 := Bool.eq_false_iff.mpr c64
            subst c64
            have H1 : (some false) = some true := by first | (rw [if_neg (show ¬ (false = true) by decide)] at H; exact H) | rfl
            clear H
            have H := H1
            clear H1
            exact absurd H (by simp)

end Go.Proofs.Ytobkbpoamicjgaa.PFnExactSwapVessels

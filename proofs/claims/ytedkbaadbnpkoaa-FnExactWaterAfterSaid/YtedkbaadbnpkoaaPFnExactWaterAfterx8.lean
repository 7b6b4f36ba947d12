/- Lean functions of the Go functions that the law FnExactWaterAfter reaches, and the proofs that the calls come to what they say (made by program). -/
import Derived.Test.YtedkbaadbnpkoaaAb
import Derived.Test.YtedkbaadbnpkoaaPFnExactWaterAfterx0
import Derived.Test.YtedkbaadbnpkoaaPFnExactWaterAfterx1
import Derived.Test.YtedkbaadbnpkoaaPFnExactWaterAfterx2
import Derived.Test.YtedkbaadbnpkoaaPFnExactWaterAfterx3
import Derived.Test.YtedkbaadbnpkoaaPFnExactWaterAfterx5
import Derived.Test.YtedkbaadbnpkoaaPFnExactWaterAfterx6
import Derived.Test.YtedkbaadbnpkoaaPFnExactWaterAfterx7
namespace Go.Proofs.Ytedkbaadbnpkoaa.PFnExactWaterAfter
open Go.RowKit Go.Proofs.YtedkbaadbnpkoaaW.PrintWords Go.Proofs.YtedkbaadbnpkoaaW.PrintLast Go.Proofs.YtedkbaadbnpkoaaW.PrintMore Go.Proofs.Ytedkbaadbnpkoaa.Ab
attribute [local go_sem] max2_int min2_int max_two min_two max_three min_three max_four min_four   -- for this text's walks alone
set_option linter.unusedVariables false
set_option linter.unusedSimpArgs false

/-! ### laws_FnExactWaterAfter: function 3 -/
mutual
def laws_FnExactWaterAfter.j0 : Nat → List (S66) → List (S44) → Bool → List (S63) → List (S44) → Bool → Bool → Option (Bool)
  | 0, _, _, _, _, _, _, _ => none
  | k + 1, x0, x4, x5, x6, x7, x8, x40 => if x40 = true then (some false) else ((laws_toTankS.f k x0).bind fun t281 => ((laws_eqTankS.f k x6 t281).bind fun t284 => (if t284 = true then ((laws_markTankS.f k x6 1).bind fun bt285 => (if bt285.1 < 0 then (laws_FnExactWaterAfter.j1 k x0 x4 x5 x7 true) else ((laws_eqRatioS.f k x7 x4).bind fun t287 => (if t287 = true then (laws_FnExactWaterAfter.j1 k x0 x4 x5 x7 (x8 != x5)) else (laws_FnExactWaterAfter.j1 k x0 x4 x5 x7 true))))) else (some false))))
def laws_FnExactWaterAfter.j1 : Nat → List (S66) → List (S44) → Bool → List (S44) → Bool → Option (Bool)
  | 0, _, _, _, _, _ => none
  | k + 1, x0, x4, x5, x7, x61 => if x61 = true then (some false) else ((laws_markRatioS.f k x7 1).bind fun bt288 => ((laws_heldRatioS.f k bt288.2 1).bind fun t290 => (if t290 < 0 then (some false) else (if t290 = bt288.1 then ((laws_toTankS.f k x0).bind fun t291 => ((impl_WaterAfter.f k t291).bind fun bt294 => ((laws_eqRatioS.f k bt294.1 x4).bind fun t298 => (if t298 = true then (laws_FnExactWaterAfter.j2 k bt288.2 bt288.1 (bt294.2 != x5)) else (laws_FnExactWaterAfter.j2 k bt288.2 bt288.1 true))))) else (some false)))))
def laws_FnExactWaterAfter.j2 : Nat → List (S44) → Int → Bool → Option (Bool)
  | 0, _, _, _ => none
  | k + 1, x7, x10, x87 => if x87 = true then (some false) else ((laws_heldRatioS.f k x7 1).bind fun t299 => (if t299 < 0 then (some false) else (if t299 = x10 then (some true) else (some false))))
end
def laws_FnExactWaterAfter.f (k : Nat) (l0 : List (S66)) : Option (Bool) := (laws_szTankS.f l0 1048576).bind fun t265 => (if t265 < 0 then (some true) else ((laws_toTankS.f k l0).bind fun t266 => ((spec_WaterAfter.f k t266).bind fun bt269 => ((laws_toTankS.f k l0).bind fun t273 => ((impl_WaterAfter.f k t273).bind fun bt276 => ((laws_eqRatioS.f k bt276.1 bt269.1).bind fun t280 => (if t280 = true then (laws_FnExactWaterAfter.j0 k l0 bt269.1 bt269.2 t273 bt276.1 bt276.2 (bt276.2 != bt269.2)) else (laws_FnExactWaterAfter.j0 k l0 bt269.1 bt269.2 t273 bt276.1 bt276.2 true))))))))
theorem laws_FnExactWaterAfter.mono_l : ∀ k, (∀ y0 y1 y2 y3 y4 y5 y6, LeO (laws_FnExactWaterAfter.j0 k y0 y1 y2 y3 y4 y5 y6) (laws_FnExactWaterAfter.j0 (k + 1) y0 y1 y2 y3 y4 y5 y6)) ∧ (∀ y0 y1 y2 y3 y4, LeO (laws_FnExactWaterAfter.j1 k y0 y1 y2 y3 y4) (laws_FnExactWaterAfter.j1 (k + 1) y0 y1 y2 y3 y4)) ∧ (∀ y0 y1 y2, LeO (laws_FnExactWaterAfter.j2 k y0 y1 y2) (laws_FnExactWaterAfter.j2 (k + 1) y0 y1 y2))
 | 0 => ⟨fun _ _ _ _ _ _ _ r h => by simp [laws_FnExactWaterAfter.j0] at h, fun _ _ _ _ _ r h => by simp [laws_FnExactWaterAfter.j1] at h, fun _ _ _ r h => by simp [laws_FnExactWaterAfter.j2] at h⟩
 | k + 1 => by
  obtain ⟨ih0, ih1, ih2⟩ := laws_FnExactWaterAfter.mono_l k
  refine ⟨?_, ?_, ?_⟩
  ·intro y0 y1 y2 y3 y4 y5 y6
   unfold laws_FnExactWaterAfter.j0
   repeat' first
   | (with_reducible exact ih0 _ _ _ _ _ _ _)
   | (with_reducible exact ih1 _ _ _ _ _)
   | (with_reducible exact ih2 _ _ _)
   | (with_reducible exact impl_WaterAfter.mono _ _)
   | (with_reducible exact laws_eqRatioS.mono _ _ _)
   | (with_reducible exact laws_eqTankS.mono _ _ _)
   | (with_reducible exact laws_heldRatioS.mono _ _ _)
   | (with_reducible exact laws_markRatioS.mono _ _ _)
   | (with_reducible exact laws_markTankS.mono _ _ _)
   | (with_reducible exact laws_toTankS.mono _ _)
   | (with_reducible exact spec_WaterAfter.mono _ _)
   | (with_reducible exact LeO.refl _)
   | (with_reducible exact LeO.none _)
   | (with_reducible refine LeO.ite ?_ ?_)
   | (with_reducible refine LeO.bind ?_ (fun _ => ?_))
   | exact ih0 _ _ _ _ _ _ _
   | exact ih1 _ _ _ _ _
   | exact ih2 _ _ _
   | exact impl_WaterAfter.mono _ _
   | exact laws_eqRatioS.mono _ _ _
   | exact laws_eqTankS.mono _ _ _
   | exact laws_heldRatioS.mono _ _ _
   | exact laws_markRatioS.mono _ _ _
   | exact laws_markTankS.mono _ _ _
   | exact laws_toTankS.mono _ _
   | exact spec_WaterAfter.mono _ _
   | exact LeO.none _
   | refine LeO.ite ?_ ?_
   | refine LeO.bind ?_ (fun _ => ?_)
  ·intro y0 y1 y2 y3 y4
   unfold laws_FnExactWaterAfter.j1
   repeat' first
   | (with_reducible exact ih0 _ _ _ _ _ _ _)
   | (with_reducible exact ih1 _ _ _ _ _)
   | (with_reducible exact ih2 _ _ _)
   | (with_reducible exact impl_WaterAfter.mono _ _)
   | (with_reducible exact laws_eqRatioS.mono _ _ _)
   | (with_reducible exact laws_eqTankS.mono _ _ _)
   | (with_reducible exact laws_heldRatioS.mono _ _ _)
   | (with_reducible exact laws_markRatioS.mono _ _ _)
   | (with_reducible exact laws_markTankS.mono _ _ _)
   | (with_reducible exact laws_toTankS.mono _ _)
   | (with_reducible exact spec_WaterAfter.mono _ _)
   | (with_reducible exact LeO.refl _)
   | (with_reducible exact LeO.none _)
   | (with_reducible refine LeO.ite ?_ ?_)
   | (with_reducible refine LeO.bind ?_ (fun _ => ?_))
   | exact ih0 _ _ _ _ _ _ _
   | exact ih1 _ _ _ _ _
   | exact ih2 _ _ _
   | exact impl_WaterAfter.mono _ _
   | exact laws_eqRatioS.mono _ _ _
   | exact laws_eqTankS.mono _ _ _
   | exact laws_heldRatioS.mono _ _ _
   | exact laws_markRatioS.mono _ _ _
   | exact laws_markTankS.mono _ _ _
   | exact laws_toTankS.mono _ _
   | exact spec_WaterAfter.mono _ _
   | exact LeO.none _
   | refine LeO.ite ?_ ?_
   | refine LeO.bind ?_ (fun _ => ?_)
  ·intro y0 y1 y2
   unfold laws_FnExactWaterAfter.j2
   repeat' first
   | (with_reducible exact ih0 _ _ _ _ _ _ _)
   | (with_reducible exact ih1 _ _ _ _ _)
   | (with_reducible exact ih2 _ _ _)
   | (with_reducible exact impl_WaterAfter.mono _ _)
   | (with_reducible exact laws_eqRatioS.mono _ _ _)
   | (with_reducible exact laws_eqTankS.mono _ _ _)
   | (with_reducible exact laws_heldRatioS.mono _ _ _)
   | (with_reducible exact laws_markRatioS.mono _ _ _)
   | (with_reducible exact laws_markTankS.mono _ _ _)
   | (with_reducible exact laws_toTankS.mono _ _)
   | (with_reducible exact spec_WaterAfter.mono _ _)
   | (with_reducible exact LeO.refl _)
   | (with_reducible exact LeO.none _)
   | (with_reducible refine LeO.ite ?_ ?_)
   | (with_reducible refine LeO.bind ?_ (fun _ => ?_))
   | exact ih0 _ _ _ _ _ _ _
   | exact ih1 _ _ _ _ _
   | exact ih2 _ _ _
   | exact impl_WaterAfter.mono _ _
   | exact laws_eqRatioS.mono _ _ _
   | exact laws_eqTankS.mono _ _ _
   | exact laws_heldRatioS.mono _ _ _
   | exact laws_markRatioS.mono _ _ _
   | exact laws_markTankS.mono _ _ _
   | exact laws_toTankS.mono _ _
   | exact spec_WaterAfter.mono _ _
   | exact LeO.none _
   | refine LeO.ite ?_ ?_
   | refine LeO.bind ?_ (fun _ => ?_)
theorem laws_FnExactWaterAfter.mono : ∀ a0 k, LeO (laws_FnExactWaterAfter.f k a0) (laws_FnExactWaterAfter.f (k + 1) a0) := by
 intro a0 k
 obtain ⟨ih0, ih1, ih2⟩ := laws_FnExactWaterAfter.mono_l k
 unfold laws_FnExactWaterAfter.f
 repeat' first
   | (with_reducible exact ih0 _ _ _ _ _ _ _)
   | (with_reducible exact ih1 _ _ _ _ _)
   | (with_reducible exact ih2 _ _ _)
   | (with_reducible exact impl_WaterAfter.mono _ _)
   | (with_reducible exact laws_eqRatioS.mono _ _ _)
   | (with_reducible exact laws_eqTankS.mono _ _ _)
   | (with_reducible exact laws_heldRatioS.mono _ _ _)
   | (with_reducible exact laws_markRatioS.mono _ _ _)
   | (with_reducible exact laws_markTankS.mono _ _ _)
   | (with_reducible exact laws_toTankS.mono _ _)
   | (with_reducible exact spec_WaterAfter.mono _ _)
   | (with_reducible exact LeO.refl _)
   | (with_reducible exact LeO.none _)
   | (with_reducible refine LeO.ite ?_ ?_)
   | (with_reducible refine LeO.bind ?_ (fun _ => ?_))
   | exact ih0 _ _ _ _ _ _ _
   | exact ih1 _ _ _ _ _
   | exact ih2 _ _ _
   | exact impl_WaterAfter.mono _ _
   | exact laws_eqRatioS.mono _ _ _
   | exact laws_eqTankS.mono _ _ _
   | exact laws_heldRatioS.mono _ _ _
   | exact laws_markRatioS.mono _ _ _
   | exact laws_markTankS.mono _ _ _
   | exact laws_toTankS.mono _ _
   | exact spec_WaterAfter.mono _ _
   | exact LeO.none _
   | refine LeO.ite ?_ ?_
   | refine LeO.bind ?_ (fun _ => ?_)
set_option maxHeartbeats 8000000 in
set_option maxRecDepth 100000 in
theorem laws_FnExactWaterAfter.calls (k : Nat) (A0 : Option Addr) (c0 : Nat) (l0 : List (S66)) (w : World) (hr0 : Kd.C k66 w A0 l0.length l0) (hc0 : l0.length ≤ c0) (h : laws_FnExactWaterAfter.f k l0 = some true) :
  Calls Try.prog 3 #[.slice A0 l0.length c0] w fun e w' => e = .returned (.bool true) ∧ Below w.heap.size w w' := by
 have HR0 := Aside0.mk hr0
 have HC0 := Aside0.mk hc0
 clear hr0 hc0
 have HB := Aside0.mk (Below.refl w.heap.size w)
 have H : ((laws_szTankS.f l0 1048576).bind fun t265 => (if t265 < 0 then (some true) else ((laws_toTankS.f k l0).bind fun t266 => ((spec_WaterAfter.f k t266).bind fun bt269 => ((laws_toTankS.f k l0).bind fun t273 => ((impl_WaterAfter.f k t273).bind fun bt276 => ((laws_eqRatioS.f k bt276.1 bt269.1).bind fun t280 => (if t280 = true then (laws_FnExactWaterAfter.j0 k l0 bt269.1 bt269.2 t273 bt276.1 bt276.2 (bt276.2 != bt269.2)) else (laws_FnExactWaterAfter.j0 k l0 bt269.1 bt269.2 t273 bt276.1 bt276.2 true))))))))) = some true := h
 clear h
 replace H := Option.bind_eq_some_iff.mp H
 obtain ⟨t265, A20, H⟩ := H
 replace H : (if t265 < 0 then (some true) else ((laws_toTankS.f k l0).bind fun t266 => ((spec_WaterAfter.f k t266).bind fun bt269 => ((laws_toTankS.f k l0).bind fun t273 => ((impl_WaterAfter.f k t273).bind fun bt276 => ((laws_eqRatioS.f k bt276.1 bt269.1).bind fun t280 => (if t280 = true then (laws_FnExactWaterAfter.j0 k l0 bt269.1 bt269.2 t273 bt276.1 bt276.2 (bt276.2 != bt269.2)) else (laws_FnExactWaterAfter.j0 k l0 bt269.1 bt269.2 t273 bt276.1 bt276.2 true)))))))) = some true := H
 have A2 := Aside0.mk A20
 clear A20
 by_cases c3 : t265 < 0
 ·rw [if_pos c3] at H
  have c3b0 : decide (t265 < 0) = true := decide_eq_true c3
  clear c3
  clear H
  go_enter Try.func3, Try.ntmps3
  go_wp2_with (first | ((with_reducible refine gate_callee (f := 13) rfl ?_); refine goesL_ (some 16) rfl rfl Try.func13 (by kernel_rfl) rfl #[.slice A0 l0.length c0, .int .i64 1048576] rfl (by (try simp only [List.map_toArray, List.map_cons, List.map_nil]); first | done | rfl | (simp only [List.length_drop, List.length_take]; rfl)) ?_; (with_reducible refine (laws_szTankS.calls _ _ l0 1048576 t265 _ ?side1 ?side2 A2.out).mono ?_); (case side1 => exact xd (HR0.out)); (case side2 => exact HC0.out); rintro e w' ⟨rfl, ⟨nd, rfl⟩⟩; refine ⟨_, rfl, ?_⟩))
  go_ret
  exact ⟨by first | rfl | (simp [errW_none, errW_some] <;> rfl) | (simp [*, errW_none, errW_some] <;> rfl), by repeat (first | (with_reducible first | exact HB.out | apply below_alloc | apply pw_below_drewN | apply below_drew1) | exact HB.out)⟩
 ·rw [if_neg c3] at H
  have c3b0 : decide (t265 < 0) = false := decide_eq_false c3
  clear c3
  replace H := Option.bind_eq_some_iff.mp H
  obtain ⟨t266, A40, H⟩ := H
  replace H : ((spec_WaterAfter.f k t266).bind fun bt269 => ((laws_toTankS.f k l0).bind fun t273 => ((impl_WaterAfter.f k t273).bind fun bt276 => ((laws_eqRatioS.f k bt276.1 bt269.1).bind fun t280 => (if t280 = true then (laws_FnExactWaterAfter.j0 k l0 bt269.1 bt269.2 t273 bt276.1 bt276.2 (bt276.2 != bt269.2)) else (laws_FnExactWaterAfter.j0 k l0 bt269.1 bt269.2 t273 bt276.1 bt276.2 true)))))) = some true := H
  have A4 := Aside0.mk A40
  clear A40
  replace H := Option.bind_eq_some_iff.mp H
  obtain ⟨⟨t269, t270⟩, A50, H⟩ := H
  replace H : ((laws_toTankS.f k l0).bind fun t273 => ((impl_WaterAfter.f k t273).bind fun bt276 => ((laws_eqRatioS.f k bt276.1 t269).bind fun t280 => (if t280 = true then (laws_FnExactWaterAfter.j0 k l0 t269 t270 t273 bt276.1 bt276.2 (bt276.2 != t270)) else (laws_FnExactWaterAfter.j0 k l0 t269 t270 t273 bt276.1 bt276.2 true))))) = some true := H
  have A5 := Aside0.mk A50
  clear A50
  replace H := Option.bind_eq_some_iff.mp H
  obtain ⟨t273, A60, H⟩ := H
  replace H : ((impl_WaterAfter.f k t273).bind fun bt276 => ((laws_eqRatioS.f k bt276.1 t269).bind fun t280 => (if t280 = true then (laws_FnExactWaterAfter.j0 k l0 t269 t270 t273 bt276.1 bt276.2 (bt276.2 != t270)) else (laws_FnExactWaterAfter.j0 k l0 t269 t270 t273 bt276.1 bt276.2 true)))) = some true := H
  have A6 := Aside0.mk A60
  clear A60
  replace H := Option.bind_eq_some_iff.mp H
  obtain ⟨⟨t276, t277⟩, A70, H⟩ := H
  replace H : ((laws_eqRatioS.f k t276 t269).bind fun t280 => (if t280 = true then (laws_FnExactWaterAfter.j0 k l0 t269 t270 t273 t276 t277 (t277 != t270)) else (laws_FnExactWaterAfter.j0 k l0 t269 t270 t273 t276 t277 true))) = some true := H
  have A7 := Aside0.mk A70
  clear A70
  have HC8 := Aside0.mk H
  clear H
  go_enter Try.func3, Try.ntmps3
  go_upto_region 8 with (first | ((with_reducible refine gate_callee (f := 13) rfl ?_); refine goesL_ (some 16) rfl rfl Try.func13 (by kernel_rfl) rfl #[.slice A0 l0.length c0, .int .i64 1048576] rfl (by (try simp only [List.map_toArray, List.map_cons, List.map_nil]); first | done | rfl | (simp only [List.length_drop, List.length_take]; rfl)) ?_; (with_reducible refine (laws_szTankS.calls _ _ l0 1048576 t265 _ ?side1 ?side2 A2.out).mono ?_); (case side1 => exact xd (HR0.out)); (case side2 => exact HC0.out); rintro e w' ⟨rfl, ⟨nd, rfl⟩⟩; refine ⟨_, rfl, ?_⟩) | ((with_reducible refine gate_callee (f := 15) rfl ?_); refine goesL_ (some 21) rfl rfl Try.func15 (by kernel_rfl) rfl #[.slice A0 l0.length c0] rfl (by (try simp only [List.map_toArray, List.map_cons, List.map_nil]); first | done | rfl | (simp only [List.length_drop, List.length_take]; rfl)) ?_; (with_reducible refine (laws_toTankS.calls k _ _ l0 t266 _ ?side1 ?side2 A4.out).mono ?_); (case side1 => exact xd (HR0.out)); (case side2 => exact HC0.out); rintro e w9 ⟨v267, rfl, ho0, hb⟩; refine ⟨_, rfl, ?_⟩; have HO268 := Aside0.mk (Kd.R_lower ho0 (below_size (xs HB.out))); replace HB := xp HB hb; (try clear hb); (try clear hb2); (try clear hk); (try clear hi); (try clear ho0); obtain ⟨Ao10, co10, eo10⟩ := Kd.R_slice HO268.out; subst eo10) | ((with_reducible refine gate_callee (f := 14) rfl ?_); refine goesL_ (some 22) rfl rfl Try.func14 (by kernel_rfl) rfl #[.slice Ao10 t266.length co10] rfl (by (try simp only [List.map_toArray, List.map_cons, List.map_nil]); first | done | rfl | (simp only [List.length_drop, List.length_take]; rfl)) ?_; (with_reducible refine (spec_WaterAfter.calls k _ _ t266 t269 t270 _ ?side1 ?side2 A5.out).mono ?_); (case side1 => exact xd ((Kd.R_reads' HO268.out).2.2)); (case side2 => exact (Kd.R_reads' HO268.out).2.1); rintro e w11 ⟨v271, rfl, ho0, hb⟩; refine ⟨_, rfl, ?_⟩; replace HO268 := xq HO268 hb; have HO272 := Aside0.mk (Kd.R_lower ho0 (below_size (xs HB.out))); replace HB := xp HB hb; (try clear hb); (try clear hb2); (try clear hk); (try clear hi); (try clear ho0)) | ((with_reducible refine gate_callee (f := 15) rfl ?_); refine goesL_ (some 26) rfl rfl Try.func15 (by kernel_rfl) rfl #[.slice A0 l0.length c0] rfl (by (try simp only [List.map_toArray, List.map_cons, List.map_nil]); first | done | rfl | (simp only [List.length_drop, List.length_take]; rfl)) ?_; (with_reducible refine (laws_toTankS.calls k _ _ l0 t273 _ ?side1 ?side2 A6.out).mono ?_); (case side1 => exact xd ((Kd.C_below HR0.out HB.out))); (case side2 => exact HC0.out); rintro e w12 ⟨v274, rfl, ho0, hb⟩; refine ⟨_, rfl, ?_⟩; replace HO272 := xq HO272 hb; have HO275 := Aside0.mk (Kd.R_lower (Kd.R_new' ho0 (Kd.R_lt (xr HO268.out))) (below_size (xs HB.out))); replace HO268 := Aside0.mk (Kd.R_elder' (xr HO268.out) (Kd.R_base ho0) hb); replace HB := xp HB hb; (try clear hb); (try clear hb2); (try clear hk); (try clear hi); (try clear ho0); obtain ⟨Ao13, co13, eo13⟩ := Kd.R_slice HO275.out; subst eo13) | ((with_reducible refine gate_callee (f := 16) rfl ?_); refine goesL_ (some 29) rfl rfl Try.func16 (by kernel_rfl) rfl #[.slice Ao13 t273.length co13] rfl (by (try simp only [List.map_toArray, List.map_cons, List.map_nil]); first | done | rfl | (simp only [List.length_drop, List.length_take]; rfl)) ?_; (with_reducible refine (impl_WaterAfter.calls k _ _ t273 t276 t277 _ ?side1 ?side2 A7.out).mono ?_); (case side1 => exact xd ((Kd.R_reads' HO275.out).2.2)); (case side2 => exact (Kd.R_reads' HO275.out).2.1); rintro e w14 ⟨v278, rfl, ho0, hb⟩; refine ⟨_, rfl, ?_⟩; replace HO268 := xq HO268 hb; replace HO275 := xq HO275 hb; have HO279 := Aside0.mk (Kd.R_lower (Kd.R_new' ho0 (Kd.R_lt (xr HO272.out))) (below_size (xs HB.out))); replace HO272 := Aside0.mk (Kd.R_elder' (xr HO272.out) (Kd.R_base ho0) hb); replace HB := xp HB hb; (try clear hb); (try clear hb2); (try clear hk); (try clear hi); (try clear ho0)))
  (try simp only [Act.put, List.setIfInBounds_toArray, List.set_cons_zero, List.set_cons_succ])
  go_cut [40] (fun v40 wc => ∃ (kq : Nat) (x40_7 : Bool), v40 = .bool x40_7 ∧ Aside0 (laws_FnExactWaterAfter.j0 kq l0 t269 t270 t273 t276 t277 x40_7 = some true) ∧ Aside0 (kq ≤ k) ∧ Aside0 (Kd.R k44 44 wc w.heap.size (fun k_ => nV k_ v278) v271 t269) ∧ Aside0 (Kd.R k63 63 wc w.heap.size (fun _ => True) (.slice Ao13 t273.length co13) t273) ∧ Aside0 (Kd.R k44 44 wc w.heap.size (fun k_ => nV k_ v271) v278 t276) ∧ Aside0 (Below w.heap.size w wc))
  case first =>
   have H := HC8.out
   clear HC8
   replace H := Option.bind_eq_some_iff.mp H
   obtain ⟨t280, A150, H⟩ := H
   replace H : (if t280 = true then (laws_FnExactWaterAfter.j0 k l0 t269 t270 t273 t276 t277 (t277 != t270)) else (laws_FnExactWaterAfter.j0 k l0 t269 t270 t273 t276 t277 true)) = some true := H
   have A15 := Aside0.mk A150
   clear A150
   by_cases c16 : t280 = true
   ·subst c16
    have H1 : (laws_FnExactWaterAfter.j0 k l0 t269 t270 t273 t276 t277 (t277 != t270)) = some true := by first | (rw [if_pos rfl] at H; exact H) | rfl
    clear H
    have H := H1
    clear H1
    have H' := Aside0.mk H
    clear H
    obtain ⟨Ao17, co17, eo17⟩ := Kd.R_slice HO279.out
    subst eo17
    obtain ⟨Ao18, co18, eo18⟩ := Kd.R_slice HO272.out
    subst eo18
    go_wp2_with (first | ((with_reducible refine gate_callee (f := 17) rfl ?_); refine goesL_ (some 34) rfl rfl Try.func17 (by kernel_rfl) rfl #[.slice Ao17 t276.length co17, .slice Ao18 t269.length co18] rfl (by (try simp only [List.map_toArray, List.map_cons, List.map_nil]); first | done | rfl | (simp only [List.length_drop, List.length_take]; rfl)) ?_; (with_reducible refine (laws_eqRatioS.calls k _ _ t276 _ _ t269 true _ ?side1 ?side2 ?side3 ?side4 A15.out).mono ?_); (case side1 => exact xd ((Kd.R_reads' HO279.out).2.2)); (case side2 => exact (Kd.R_reads' HO279.out).2.1); (case side3 => exact xd ((Kd.R_reads' HO272.out).2.2)); (case side4 => exact (Kd.R_reads' HO272.out).2.1); rintro e w19 ⟨rfl, hb⟩; refine ⟨_, rfl, ?_⟩; replace HO268 := xq HO268 hb; replace HO272 := xq HO272 hb; replace HO275 := xq HO275 hb; replace HO279 := xq HO279 hb; replace HB := xp HB hb; (try clear hb); (try clear hb2); (try clear hk); (try clear hi)))
    go_meet
    case rel => exact ⟨_, ((t277 != t270)), (by first | rfl | (simp; done) | (simp [*]; done)), H', ⟨by first | omega | exact Nat.le_refl _⟩, ⟨xm HO272 (fun _ hk => hk.2)⟩, ⟨xm HO275 (fun _ hk => trivial)⟩, ⟨xm HO279 (fun _ hk => hk.2)⟩, ⟨xs HB.out⟩⟩
   ·replace c16 := Bool.eq_false_iff.mpr c16
    subst c16
    have H1 : (laws_FnExactWaterAfter.j0 k l0 t269 t270 t273 t276 t277 true) = some true := by first | (rw [if_neg (show ¬ (false = true) by decide)] at H; exact H) | rfl
    clear H
    have H := H1
    clear H1
    have H' := Aside0.mk H
    clear H
    obtain ⟨Ao20, co20, eo20⟩ := Kd.R_slice HO279.out
    subst eo20
    obtain ⟨Ao21, co21, eo21⟩ := Kd.R_slice HO272.out
    subst eo21
    go_wp2_with (first | ((with_reducible refine gate_callee (f := 17) rfl ?_); refine goesL_ (some 34) rfl rfl Try.func17 (by kernel_rfl) rfl #[.slice Ao20 t276.length co20, .slice Ao21 t269.length co21] rfl (by (try simp only [List.map_toArray, List.map_cons, List.map_nil]); first | done | rfl | (simp only [List.length_drop, List.length_take]; rfl)) ?_; (with_reducible refine (laws_eqRatioS.calls k _ _ t276 _ _ t269 false _ ?side1 ?side2 ?side3 ?side4 A15.out).mono ?_); (case side1 => exact xd ((Kd.R_reads' HO279.out).2.2)); (case side2 => exact (Kd.R_reads' HO279.out).2.1); (case side3 => exact xd ((Kd.R_reads' HO272.out).2.2)); (case side4 => exact (Kd.R_reads' HO272.out).2.1); rintro e w22 ⟨rfl, hb⟩; refine ⟨_, rfl, ?_⟩; replace HO268 := xq HO268 hb; replace HO272 := xq HO272 hb; replace HO275 := xq HO275 hb; replace HO279 := xq HO279 hb; replace HB := xp HB hb; (try clear hb); (try clear hb2); (try clear hk); (try clear hi)))
    go_meet
    case rel => exact ⟨_, (true), (by first | rfl | (simp; done) | (simp [*]; done)), H', ⟨by first | omega | exact Nat.le_refl _⟩, ⟨xm HO272 (fun _ hk => hk.2)⟩, ⟨xm HO275 (fun _ hk => trivial)⟩, ⟨xm HO279 (fun _ hk => hk.2)⟩, ⟨xs HB.out⟩⟩
  case rest =>
   clear HC8
   try clear c1
   try clear p2
   try clear c3
   try clear c3b0
   try clear c13
   try clear c14
   try clear c15
   try clear c16
   try clear c17
   obtain ⟨kq, x40_7, rfl, HA, HJ7, HO_4, HO_6, HO_7, HB⟩ := hcut
   cases kq with
   | zero => exact absurd HA.out (by simp [laws_FnExactWaterAfter.j0])
   | succ kj7 =>
    have H := HA.out
    clear HA
    simp only [laws_FnExactWaterAfter.j0] at H
    by_cases c23 : x40_7 = true
    ·subst c23
     have H1 : (some false) = some true := by first | (rw [if_pos rfl] at H; exact H) | rfl
     clear H
     have H := H1
     clear H1
     exact absurd H (by simp)
    ·replace c23 := Bool.eq_false_iff.mpr c23
     subst c23
     have H1 : ((laws_toTankS.f kj7 l0).bind fun t281 => ((laws_eqTankS.f kj7 t273 t281).bind fun t284 => (if t284 = true then ((laws_markTankS.f kj7 t273 1).bind fun bt285 => (if bt285.1 < 0 then (laws_FnExactWaterAfter.j1 kj7 l0 t269 t270 t276 true) else ((laws_eqRatioS.f kj7 t276 t269).bind fun t287 => (if t287 = true then (laws_FnExactWaterAfter.j1 kj7 l0 t269 t270 t276 (t277 != t270)) else (laws_FnExactWaterAfter.j1 kj7 l0 t269 t270 t276 true))))) else (some false)))) = some true := by first | (rw [if_neg (show ¬ (false = true) by decide)] at H; exact H) | rfl
     clear H
     have H := H1
     clear H1
     replace H := Option.bind_eq_some_iff.mp H
     obtain ⟨t281, A240, H⟩ := H
     replace H : ((laws_eqTankS.f kj7 t273 t281).bind fun t284 => (if t284 = true then ((laws_markTankS.f kj7 t273 1).bind fun bt285 => (if bt285.1 < 0 then (laws_FnExactWaterAfter.j1 kj7 l0 t269 t270 t276 true) else ((laws_eqRatioS.f kj7 t276 t269).bind fun t287 => (if t287 = true then (laws_FnExactWaterAfter.j1 kj7 l0 t269 t270 t276 (t277 != t270)) else (laws_FnExactWaterAfter.j1 kj7 l0 t269 t270 t276 true))))) else (some false))) = some true := H
     have A24 := Aside0.mk A240
     clear A240
     replace H := Option.bind_eq_some_iff.mp H
     obtain ⟨t284, A250, H⟩ := H
     replace H : (if t284 = true then ((laws_markTankS.f kj7 t273 1).bind fun bt285 => (if bt285.1 < 0 then (laws_FnExactWaterAfter.j1 kj7 l0 t269 t270 t276 true) else ((laws_eqRatioS.f kj7 t276 t269).bind fun t287 => (if t287 = true then (laws_FnExactWaterAfter.j1 kj7 l0 t269 t270 t276 (t277 != t270)) else (laws_FnExactWaterAfter.j1 kj7 l0 t269 t270 t276 true))))) else (some false)) = some true := H
     have A25 := Aside0.mk A250
     clear A250
     by_cases c26 : t284 = true
     ·subst c26
      have H1 : ((laws_markTankS.f kj7 t273 1).bind fun bt285 => (if bt285.1 < 0 then (laws_FnExactWaterAfter.j1 kj7 l0 t269 t270 t276 true) else ((laws_eqRatioS.f kj7 t276 t269).bind fun t287 => (if t287 = true then (laws_FnExactWaterAfter.j1 kj7 l0 t269 t270 t276 (t277 != t270)) else (laws_FnExactWaterAfter.j1 kj7 l0 t269 t270 t276 true))))) = some true := by first | (rw [if_pos rfl] at H; exact H) | rfl
      clear H
      have H := H1
      clear H1
      replace H := Option.bind_eq_some_iff.mp H
      obtain ⟨⟨t285, t286⟩, A270, H⟩ := H
      replace H : (if t285 < 0 then (laws_FnExactWaterAfter.j1 kj7 l0 t269 t270 t276 true) else ((laws_eqRatioS.f kj7 t276 t269).bind fun t287 => (if t287 = true then (laws_FnExactWaterAfter.j1 kj7 l0 t269 t270 t276 (t277 != t270)) else (laws_FnExactWaterAfter.j1 kj7 l0 t269 t270 t276 true)))) = some true := H
      have A27 := Aside0.mk A270
      clear A270
      have HC28 := Aside0.mk H
      clear H
      go_upto_region 14 with (first | ((with_reducible refine gate_callee (f := 15) rfl ?_); refine goesL_ (some 43) rfl rfl Try.func15 (by kernel_rfl) rfl #[.slice A0 l0.length c0] rfl (by (try simp only [List.map_toArray, List.map_cons, List.map_nil]); first | done | rfl | (simp only [List.length_drop, List.length_take]; rfl)) ?_; (with_reducible refine (laws_toTankS.calls kj7 _ _ l0 t281 _ ?side1 ?side2 A24.out).mono ?_); (case side1 => exact xd ((Kd.C_below HR0.out HB.out))); (case side2 => exact HC0.out); rintro e w29 ⟨v282, rfl, ho0, hb⟩; refine ⟨_, rfl, ?_⟩; replace HO_4 := xq HO_4 hb; replace HO_7 := xq HO_7 hb; have HO283 := Aside0.mk (Kd.R_lower (Kd.R_new' ho0 (Kd.R_lt (xr HO_6.out))) (below_size (xs HB.out))); replace HO_6 := Aside0.mk (Kd.R_elder' (xr HO_6.out) (Kd.R_base ho0) hb); replace HB := xp HB hb; (try clear hb); (try clear hb2); (try clear hk); (try clear hi); (try clear ho0); obtain ⟨Ao30, co30, eo30⟩ := Kd.R_slice HO283.out; subst eo30) | ((with_reducible refine gate_callee (f := 18) rfl ?_); refine goesL_ (some 44) rfl rfl Try.func18 (by kernel_rfl) rfl #[.slice Ao13 t273.length co13, .slice Ao30 t281.length co30] rfl (by (try simp only [List.map_toArray, List.map_cons, List.map_nil]); first | done | rfl | (simp only [List.length_drop, List.length_take]; rfl)) ?_; (with_reducible refine (laws_eqTankS.calls kj7 _ _ t273 _ _ t281 true _ ?side1 ?side2 ?side3 ?side4 A25.out).mono ?_); (case side1 => exact xd ((Kd.R_reads' HO_6.out).2.2)); (case side2 => exact (Kd.R_reads' HO_6.out).2.1); (case side3 => exact xd ((Kd.R_reads' HO283.out).2.2)); (case side4 => exact (Kd.R_reads' HO283.out).2.1); rintro e w31 ⟨rfl, hb⟩; refine ⟨_, rfl, ?_⟩; replace HO_4 := xq HO_4 hb; replace HO_6 := xq HO_6 hb; replace HO_7 := xq HO_7 hb; replace HO283 := xq HO283 hb; replace HB := xp HB hb; (try clear hb); (try clear hb2); (try clear hk); (try clear hi)) | ((with_reducible refine gate_callee (f := 19) rfl ?_); refine goesL_ (some 48) rfl rfl Try.func19 (by kernel_rfl) rfl #[.slice Ao13 t273.length co13, .int .i64 1] rfl (by (try simp only [List.map_toArray, List.map_cons, List.map_nil]); first | done | rfl | (simp only [List.length_drop, List.length_take]; rfl)) ?_; (with_reducible refine (laws_markTankS.calls kj7 (fun k_ => some k_ = (.slice Ao13 t273.length co13 : Value).ownBlock) (.slice Ao13 t273.length co13) t273 1 t285 t286 w _ ?side1 ?side2 A27.out).mono ?_); (case side1 => repeat (first | (with_reducible first | exact HB.out | apply below_alloc | apply pw_below_drewN | apply below_drew1) | exact HB.out)); (case side2 => exact Kd.R_tight rfl HO_6.out); rintro e w32 ⟨rfl, hy0, hb, hkp⟩; refine ⟨_, rfl, ?_⟩; replace HO_4 := Aside0.mk (Kd.R_mono (ok' := fun k_ => nV k_ v278) (Kd.R_keptB ((Kd.R_apart' HO_4.out (Kd.R_typed HO_6.out) (by decide))) hkp (fun k_ hk_ hs_ => (hk_.2) hs_)) (fun k_ hk_ => hk_.1.1)); replace HO_7 := Aside0.mk (Kd.R_mono (ok' := fun k_ => nV k_ v271) (Kd.R_keptB ((Kd.R_apart' HO_7.out (Kd.R_typed HO_6.out) (by decide))) hkp (fun k_ hk_ hs_ => (hk_.2) hs_)) (fun k_ hk_ => hk_.1.1)); replace HO_6 := Aside0.mk (Kd.R_reok rfl hy0 (fun k_ e_ => HO_6.out.1 k_ e_)); replace HO283 := Aside0.mk (Kd.R_mono (ok' := fun k_ => nS k_ Ao13 t273.length co13) (Kd.R_keptB (HO283.out) hkp (fun k_ hk_ hs_ => (hk_.2) hs_)) (fun k_ hk_ => hk_.1.2)); replace HB := Aside0.mk (hb); (try clear hb); (try clear hkp); (try clear hy0)))
      (try simp only [Act.put, List.setIfInBounds_toArray, List.set_cons_zero, List.set_cons_succ])
      go_cut [61] (fun v61 wc => ∃ (kq : Nat) (x61_27 : Bool), v61 = .bool x61_27 ∧ Aside0 (laws_FnExactWaterAfter.j1 kq l0 t269 t270 t276 x61_27 = some true) ∧ Aside0 (kq ≤ kj7) ∧ Aside0 (Kd.R k44 44 wc w.heap.size (fun k_ => nV k_ v278) v271 t269) ∧ Aside0 (Kd.R k44 44 wc w.heap.size (fun k_ => nV k_ v271) v278 t276) ∧ Aside0 (Below w.heap.size w wc))
      case first =>
       have H := HC28.out
       clear HC28
       by_cases c33 : t285 < 0
       ·rw [if_pos c33] at H
        have c33b0 : decide (t285 < 0) = true := decide_eq_true c33
        clear c33
        (first | rw [c33b0] | (simp only [i64_w, i32_w]; rw [c33b0]) | skip)
        have H' := Aside0.mk H
        clear H
        go_wp2
        go_meet
        case rel => exact ⟨_, (true), (by first | rfl | (simp; done) | (simp [*]; done)), H', ⟨by have := HJ7.out; first | omega | exact Nat.le_refl _⟩, ⟨xr HO_4.out⟩, ⟨xr HO_7.out⟩, ⟨xs HB.out⟩⟩
       ·rw [if_neg c33] at H
        have c33b0 : decide (t285 < 0) = false := decide_eq_false c33
        clear c33
        (first | rw [c33b0] | (simp only [i64_w, i32_w]; rw [c33b0]) | skip)
        replace H := Option.bind_eq_some_iff.mp H
        obtain ⟨t287, A340, H⟩ := H
        replace H : (if t287 = true then (laws_FnExactWaterAfter.j1 kj7 l0 t269 t270 t276 (t277 != t270)) else (laws_FnExactWaterAfter.j1 kj7 l0 t269 t270 t276 true)) = some true := H
        have A34 := Aside0.mk A340
        clear A340
        by_cases c35 : t287 = true
        ·subst c35
         have H1 : (laws_FnExactWaterAfter.j1 kj7 l0 t269 t270 t276 (t277 != t270)) = some true := by first | (rw [if_pos rfl] at H; exact H) | rfl
         clear H
         have H := H1
         clear H1
         have H' := Aside0.mk H
         clear H
         obtain ⟨Ao36, co36, eo36⟩ := Kd.R_slice HO_7.out
         subst eo36
         obtain ⟨Ao37, co37, eo37⟩ := Kd.R_slice HO_4.out
         subst eo37
         go_wp2_with (first | (go_at_call 17; (with_reducible refine (laws_eqRatioS.calls kj7 _ _ t276 _ _ t269 true _ ?side1 ?side2 ?side3 ?side4 A34.out).mono ?_); (case side1 => exact xd ((Kd.R_reads' HO_7.out).2.2)); (case side2 => exact (Kd.R_reads' HO_7.out).2.1); (case side3 => exact xd ((Kd.R_reads' HO_4.out).2.2)); (case side4 => exact (Kd.R_reads' HO_4.out).2.1); rintro e w38 ⟨rfl, hb⟩; replace HO_4 := xq HO_4 hb; replace HO_6 := xq HO_6 hb; replace HO_7 := xq HO_7 hb; replace HO283 := xq HO283 hb; replace HB := xp HB hb; (try clear hb); (try clear hb2); (try clear hk); (try clear hi)))
         go_meet
         case rel => exact ⟨_, ((t277 != t270)), (by first | rfl | (simp; done) | (simp [*]; done)), H', ⟨by have := HJ7.out; first | omega | exact Nat.le_refl _⟩, ⟨xr HO_4.out⟩, ⟨xr HO_7.out⟩, ⟨xs HB.out⟩⟩
        ·replace c35 := Bool.eq_false_iff.mpr c35
         subst c35
         have H1 : (laws_FnExactWaterAfter.j1 kj7 l0 t269 t270 t276 true) = some true := by first | (rw [if_neg (show ¬ (false = true) by decide)] at H; exact H) | rfl
         clear H
         have H := H1
         clear H1
         have H' := Aside0.mk H
         clear H
         obtain ⟨Ao39, co39, eo39⟩ := Kd.R_slice HO_7.out
         subst eo39
         obtain ⟨Ao40, co40, eo40⟩ := Kd.R_slice HO_4.out
         subst eo40
         go_wp2_with (first | (go_at_call 17; (with_reducible refine (laws_eqRatioS.calls kj7 _ _ t276 _ _ t269 false _ ?side1 ?side2 ?side3 ?side4 A34.out).mono ?_); (case side1 => exact xd ((Kd.R_reads' HO_7.out).2.2)); (case side2 => exact (Kd.R_reads' HO_7.out).2.1); (case side3 => exact xd ((Kd.R_reads' HO_4.out).2.2)); (case side4 => exact (Kd.R_reads' HO_4.out).2.1); rintro e w41 ⟨rfl, hb⟩; replace HO_4 := xq HO_4 hb; replace HO_6 := xq HO_6 hb; replace HO_7 := xq HO_7 hb; replace HO283 := xq HO283 hb; replace HB := xp HB hb; (try clear hb); (try clear hb2); (try clear hk); (try clear hi)))
         go_meet
         case rel => exact ⟨_, (true), (by first | rfl | (simp; done) | (simp [*]; done)), H', ⟨by have := HJ7.out; first | omega | exact Nat.le_refl _⟩, ⟨xr HO_4.out⟩, ⟨xr HO_7.out⟩, ⟨xs HB.out⟩⟩
      case rest =>
       clear HC28
       try clear c1
       try clear c2
       try clear p2
       try clear c3
       try clear c3b0
       try clear c13
       try clear c14
       try clear c15
       try clear c16
       try clear c17
       try clear c18
       try clear c19
       try clear c23
       try clear c26
       try clear c33
       try clear c33b0
       try clear c35
       try clear p2
       obtain ⟨kq, x61_27, rfl, HA, HJ27, HO_4, HO_7, HB⟩ := hcut
       cases kq with
       | zero => exact absurd HA.out (by simp [laws_FnExactWaterAfter.j1])
       | succ kj27 =>
        have H := HA.out
        clear HA
        simp only [laws_FnExactWaterAfter.j1] at H
        by_cases c42 : x61_27 = true
        ·subst c42
         have H1 : (some false) = some true := by first | (rw [if_pos rfl] at H; exact H) | rfl
         clear H
         have H := H1
         clear H1
         exact absurd H (by simp)
        ·replace c42 := Bool.eq_false_iff.mpr c42
         subst c42
         have H1 : ((laws_markRatioS.f kj27 t276 1).bind fun bt288 => ((laws_heldRatioS.f kj27 bt288.2 1).bind fun t290 => (if t290 < 0 then (some false) else (if t290 = bt288.1 then ((laws_toTankS.f kj27 l0).bind fun t291 => ((impl_WaterAfter.f kj27 t291).bind fun bt294 => ((laws_eqRatioS.f kj27 bt294.1 t269).bind fun t298 => (if t298 = true then (laws_FnExactWaterAfter.j2 kj27 bt288.2 bt288.1 (bt294.2 != t270)) else (laws_FnExactWaterAfter.j2 kj27 bt288.2 bt288.1 true))))) else (some false))))) = some true := by first | (rw [if_neg (show ¬ (false = true) by decide)] at H; exact H) | rfl
         clear H
         have H := H1
         clear H1
         replace H := Option.bind_eq_some_iff.mp H
         obtain ⟨⟨t288, t289⟩, A430, H⟩ := H
         replace H : ((laws_heldRatioS.f kj27 t289 1).bind fun t290 => (if t290 < 0 then (some false) else (if t290 = t288 then ((laws_toTankS.f kj27 l0).bind fun t291 => ((impl_WaterAfter.f kj27 t291).bind fun bt294 => ((laws_eqRatioS.f kj27 bt294.1 t269).bind fun t298 => (if t298 = true then (laws_FnExactWaterAfter.j2 kj27 t289 t288 (bt294.2 != t270)) else (laws_FnExactWaterAfter.j2 kj27 t289 t288 true))))) else (some false)))) = some true := H
         have A43 := Aside0.mk A430
         clear A430
         replace H := Option.bind_eq_some_iff.mp H
         obtain ⟨t290, A440, H⟩ := H
         replace H : (if t290 < 0 then (some false) else (if t290 = t288 then ((laws_toTankS.f kj27 l0).bind fun t291 => ((impl_WaterAfter.f kj27 t291).bind fun bt294 => ((laws_eqRatioS.f kj27 bt294.1 t269).bind fun t298 => (if t298 = true then (laws_FnExactWaterAfter.j2 kj27 t289 t288 (bt294.2 != t270)) else (laws_FnExactWaterAfter.j2 kj27 t289 t288 true))))) else (some false))) = some true := H
         have A44 := Aside0.mk A440
         clear A440
         by_cases c45 : t290 < 0
         ·rw [if_pos c45] at H
          have c45b0 : decide (t290 < 0) = true := decide_eq_true c45
          clear c45
          exact absurd H (by simp)
         ·rw [if_neg c45] at H
          have c45b0 : decide (t290 < 0) = false := decide_eq_false c45
          clear c45
          by_cases c46 : t290 = t288
          ·rw [if_pos c46] at H
           have c46b0 : (t290 == t288) = true := beq_iff_eq.mpr c46
           have c46b1 : (t290 != t288) = false := bne_eq_false_iff_eq.mpr c46
           clear c46
           replace H := Option.bind_eq_some_iff.mp H
           obtain ⟨t291, A470, H⟩ := H
           replace H : ((impl_WaterAfter.f kj27 t291).bind fun bt294 => ((laws_eqRatioS.f kj27 bt294.1 t269).bind fun t298 => (if t298 = true then (laws_FnExactWaterAfter.j2 kj27 t289 t288 (bt294.2 != t270)) else (laws_FnExactWaterAfter.j2 kj27 t289 t288 true)))) = some true := H
           have A47 := Aside0.mk A470
           clear A470
           replace H := Option.bind_eq_some_iff.mp H
           obtain ⟨⟨t294, t295⟩, A480, H⟩ := H
           replace H : ((laws_eqRatioS.f kj27 t294 t269).bind fun t298 => (if t298 = true then (laws_FnExactWaterAfter.j2 kj27 t289 t288 (t295 != t270)) else (laws_FnExactWaterAfter.j2 kj27 t289 t288 true))) = some true := H
           have A48 := Aside0.mk A480
           clear A480
           have HC49 := Aside0.mk H
           clear H
           obtain ⟨Ao50, co50, eo50⟩ := Kd.R_slice HO_7.out
           subst eo50
           go_upto_region 25 with (first | ((with_reducible refine gate_callee (f := 20) rfl ?_); refine goesL_ (some 64) rfl rfl Try.func20 (by kernel_rfl) rfl #[.slice Ao50 t276.length co50, .int .i64 1] rfl (by (try simp only [List.map_toArray, List.map_cons, List.map_nil]); first | done | rfl | (simp only [List.length_drop, List.length_take]; rfl)) ?_; (with_reducible refine (laws_markRatioS.calls kj27 (fun k_ => some k_ = (.slice Ao50 t276.length co50 : Value).ownBlock) (.slice Ao50 t276.length co50) t276 1 t288 t289 w _ ?side1 ?side2 A43.out).mono ?_); (case side1 => repeat (first | (with_reducible first | exact HB.out | apply below_alloc | apply pw_below_drewN | apply below_drew1) | exact HB.out)); (case side2 => exact Kd.R_tight rfl HO_7.out); rintro e w51 ⟨rfl, hy0, hb, hkp⟩; refine ⟨_, rfl, ?_⟩; replace HO_4 := Aside0.mk (Kd.R_mono (ok' := fun k_ => nS k_ Ao50 t276.length co50) (Kd.R_keptB (HO_4.out) hkp (fun k_ hk_ hs_ => (hk_) hs_)) (fun k_ hk_ => hk_.1)); replace HO_7 := Aside0.mk (Kd.R_reok rfl hy0 (fun k_ e_ => HO_7.out.1 k_ e_)); replace HB := Aside0.mk (hb); (try clear hb); (try clear hkp); (try clear hy0)) | ((with_reducible refine gate_callee (f := 21) rfl ?_); refine goesL_ (some 67) rfl rfl Try.func21 (by kernel_rfl) rfl #[.slice Ao50 t289.length co50, .int .i64 1] rfl (by (try simp only [List.map_toArray, List.map_cons, List.map_nil]); first | done | (rw [show t289.length = t276.length from (Kd.R_reads' HO_7.out).1.symm] <;> rfl) | rfl | (simp only [List.length_drop, List.length_take]; rfl)) ?_; (with_reducible refine (laws_heldRatioS.calls kj27 _ _ t289 1 t290 _ ?side1 ?side2 A44.out).mono ?_); (case side1 => exact xd ((Kd.R_reads' HO_7.out).2.2)); (case side2 => rw [show t289.length = t276.length from (Kd.R_reads' HO_7.out).1.symm]; exact (Kd.R_reads' HO_7.out).2.1); rintro e w' ⟨rfl, ⟨nd, rfl⟩⟩; refine ⟨_, rfl, ?_⟩) | ((with_reducible refine gate_callee (f := 15) rfl ?_); refine goesL_ (some 75) rfl rfl Try.func15 (by kernel_rfl) rfl #[.slice A0 l0.length c0] rfl (by (try simp only [List.map_toArray, List.map_cons, List.map_nil]); first | done | rfl | (simp only [List.length_drop, List.length_take]; rfl)) ?_; (with_reducible refine (laws_toTankS.calls kj27 _ _ l0 t291 _ ?side1 ?side2 A47.out).mono ?_); (case side1 => repeat (first | exact (Kd.C_below HR0.out (xs HB.out)) | (with_reducible refine Kd.C_alloc ?_ _) | (with_reducible refine Kd.C_drewN ?_ _) | (with_reducible refine Kd.C_drew ?_))); (case side2 => exact HC0.out); rintro e w52 ⟨v292, rfl, ho0, hb⟩; refine ⟨_, rfl, ?_⟩; replace HO_4 := xq HO_4 hb; replace HO_7 := xq HO_7 hb; have HO293 := Aside0.mk (Kd.R_lower ho0 (below_size (xs HB.out))); replace HB := xp HB hb; (try clear hb); (try clear hb2); (try clear hk); (try clear hi); (try clear ho0); obtain ⟨Ao53, co53, eo53⟩ := Kd.R_slice HO293.out; subst eo53) | ((with_reducible refine gate_callee (f := 16) rfl ?_); refine goesL_ (some 76) rfl rfl Try.func16 (by kernel_rfl) rfl #[.slice Ao53 t291.length co53] rfl (by (try simp only [List.map_toArray, List.map_cons, List.map_nil]); first | done | rfl | (simp only [List.length_drop, List.length_take]; rfl)) ?_; (with_reducible refine (impl_WaterAfter.calls kj27 _ _ t291 t294 t295 _ ?side1 ?side2 A48.out).mono ?_); (case side1 => exact xd ((Kd.R_reads' HO293.out).2.2)); (case side2 => exact (Kd.R_reads' HO293.out).2.1); rintro e w54 ⟨v296, rfl, ho0, hb⟩; refine ⟨_, rfl, ?_⟩; replace HO293 := xq HO293 hb; have HO297 := Aside0.mk (Kd.R_lower (Kd.R_new' (Kd.R_new' ho0 (Kd.R_lt (xr HO_4.out))) (Kd.R_lt (xr HO_7.out))) (below_size (xs HB.out))); replace HO_4 := Aside0.mk (Kd.R_elder' (xr HO_4.out) (Kd.R_base ho0) hb); replace HO_7 := Aside0.mk (Kd.R_elder' (xr HO_7.out) (Kd.R_base ho0) hb); replace HB := xp HB hb; (try clear hb); (try clear hb2); (try clear hk); (try clear hi); (try clear ho0)))
           (try simp only [Act.put, List.setIfInBounds_toArray, List.set_cons_zero, List.set_cons_succ])
           go_cut [87] (fun v87 wc => ∃ (kq : Nat) (x87_48 : Bool), v87 = .bool x87_48 ∧ Aside0 (laws_FnExactWaterAfter.j2 kq t289 t288 x87_48 = some true) ∧ Aside0 (kq ≤ kj27) ∧ Aside0 (Kd.R k44 44 wc w.heap.size (fun _ => True) (.slice Ao50 t276.length co50) t289) ∧ Aside0 (Below w.heap.size w wc))
           case first =>
            have H := HC49.out
            clear HC49
            replace H := Option.bind_eq_some_iff.mp H
            obtain ⟨t298, A550, H⟩ := H
            replace H : (if t298 = true then (laws_FnExactWaterAfter.j2 kj27 t289 t288 (t295 != t270)) else (laws_FnExactWaterAfter.j2 kj27 t289 t288 true)) = some true := H
            have A55 := Aside0.mk A550
            clear A550
            by_cases c56 : t298 = true
            ·subst c56
             have H1 : (laws_FnExactWaterAfter.j2 kj27 t289 t288 (t295 != t270)) = some true := by first | (rw [if_pos rfl] at H; exact H) | rfl
             clear H
             have H := H1
             clear H1
             have H' := Aside0.mk H
             clear H
             obtain ⟨Ao57, co57, eo57⟩ := Kd.R_slice HO297.out
             subst eo57
             obtain ⟨Ao58, co58, eo58⟩ := Kd.R_slice HO_4.out
             subst eo58
             go_wp2_with (first | ((with_reducible refine gate_callee (f := 17) rfl ?_); refine goesL_ (some 81) rfl rfl Try.func17 (by kernel_rfl) rfl #[.slice Ao57 t294.length co57, .slice Ao58 t269.length co58] rfl (by (try simp only [List.map_toArray, List.map_cons, List.map_nil]); first | done | rfl | (simp only [List.length_drop, List.length_take]; rfl)) ?_; (with_reducible refine (laws_eqRatioS.calls kj27 _ _ t294 _ _ t269 true _ ?side1 ?side2 ?side3 ?side4 A55.out).mono ?_); (case side1 => exact xd ((Kd.R_reads' HO297.out).2.2)); (case side2 => exact (Kd.R_reads' HO297.out).2.1); (case side3 => exact xd ((Kd.R_reads' HO_4.out).2.2)); (case side4 => exact (Kd.R_reads' HO_4.out).2.1); rintro e w59 ⟨rfl, hb⟩; refine ⟨_, rfl, ?_⟩; replace HO_4 := xq HO_4 hb; replace HO_7 := xq HO_7 hb; replace HO293 := xq HO293 hb; replace HO297 := xq HO297 hb; replace HB := xp HB hb; (try clear hb); (try clear hb2); (try clear hk); (try clear hi)))
             go_meet
             case rel => exact ⟨_, ((t295 != t270)), (by first | rfl | (simp; done) | (simp [*]; done)), H', ⟨by have := HJ7.out; have := HJ27.out; first | omega | exact Nat.le_refl _⟩, ⟨xm HO_7 (fun _ hk => trivial)⟩, ⟨xs HB.out⟩⟩
            ·replace c56 := Bool.eq_false_iff.mpr c56
             subst c56
             have H1 : (laws_FnExactWaterAfter.j2 kj27 t289 t288 true) = some true := by first | (rw [if_neg (show ¬ (false = true) by decide)] at H; exact H) | rfl
             clear H
             have H := H1
             clear H1
             have H' := Aside0.mk H
             clear H
             obtain ⟨Ao60, co60, eo60⟩ := Kd.R_slice HO297.out
             subst eo60
             obtain ⟨Ao61, co61, eo61⟩ := Kd.R_slice HO_4.out
             subst eo61
             go_wp2_with (first | ((with_reducible refine gate_callee (f := 17) rfl ?_); refine goesL_ (some 81) rfl rfl Try.func17 (by kernel_rfl) rfl #[.slice Ao60 t294.length co60, .slice Ao61 t269.length co61] rfl (by (try simp only [List.map_toArray, List.map_cons, List.map_nil]); first | done | rfl | (simp only [List.length_drop, List.length_take]; rfl)) ?_; (with_reducible refine (laws_eqRatioS.calls kj27 _ _ t294 _ _ t269 false _ ?side1 ?side2 ?side3 ?side4 A55.out).mono ?_); (case side1 => exact xd ((Kd.R_reads' HO297.out).2.2)); (case side2 => exact (Kd.R_reads' HO297.out).2.1); (case side3 => exact xd ((Kd.R_reads' HO_4.out).2.2)); (case side4 => exact (Kd.R_reads' HO_4.out).2.1); rintro e w62 ⟨rfl, hb⟩; refine ⟨_, rfl, ?_⟩; replace HO_4 := xq HO_4 hb; replace HO_7 := xq HO_7 hb; replace HO293 := xq HO293 hb; replace HO297 := xq HO297 hb; replace HB := xp HB hb; (try clear hb); (try clear hb2); (try clear hk); (try clear hi)))
             go_meet
             case rel => exact ⟨_, (true), (by first | rfl | (simp; done) | (simp [*]; done)), H', ⟨by have := HJ7.out; have := HJ27.out; first | omega | exact Nat.le_refl _⟩, ⟨xm HO_7 (fun _ hk => trivial)⟩, ⟨xs HB.out⟩⟩
           case rest =>
            clear HC49
            try clear c1
            try clear c2
            try clear p2
            try clear c3
            try clear c3b0
            try clear c4
            try clear c5
            try clear c13
            try clear c14
            try clear c15
            try clear c16
            try clear c17
            try clear c18
            try clear c19
            try clear c20
            try clear c21
            try clear c23
            try clear c26
            try clear c33
            try clear c33b0
            try clear c35
            try clear c42
            try clear c45
            try clear c45b0
            try clear c46
            try clear c46b0
            try clear c46b1
            try clear c56
            try clear p2
            obtain ⟨kq, x87_48, rfl, HA, HJ48, HO_7, HB⟩ := hcut
            have hl7_48 := (Kd.R_reads' HO_7.out).1
            rw [hl7_48] at HO_7
            (try simp only [hl7_48])
            cases kq with
            | zero => exact absurd HA.out (by simp [laws_FnExactWaterAfter.j2])
            | succ kj48 =>
             have H := HA.out
             clear HA
             simp only [laws_FnExactWaterAfter.j2] at H
             by_cases c63 : x87_48 = true
             ·subst c63
              have H1 : (some false) = some true := by first | (rw [if_pos rfl] at H; exact H) | rfl
              clear H
              have H := H1
              clear H1
              exact absurd H (by simp)
             ·replace c63 := Bool.eq_false_iff.mpr c63
              subst c63
              have H1 : ((laws_heldRatioS.f kj48 t289 1).bind fun t299 => (if t299 < 0 then (some false) else (if t299 = t288 then (some true) else (some false)))) = some true := by first | (rw [if_neg (show ¬ (false = true) by decide)] at H; exact H) | rfl
              clear H
              have H := H1
              clear H1
              replace H := Option.bind_eq_some_iff.mp H
              obtain ⟨t299, A640, H⟩ := H
              replace H : (if t299 < 0 then (some false) else (if t299 = t288 then (some true) else (some false))) = some true := H
              have A64 := Aside0.mk A640
              clear A640
              by_cases c65 : t299 < 0
              ·rw [if_pos c65] at H
               have c65b0 : decide (t299 < 0) = true := decide_eq_true c65
               clear c65
               exact absurd H (by simp)
              ·rw [if_neg c65] at H
               have c65b0 : decide (t299 < 0) = false := decide_eq_false c65
               clear c65
               by_cases c66 : t299 = t288
               ·rw [if_pos c66] at H
                have c66b0 : (t299 == t288) = true := beq_iff_eq.mpr c66
                have c66b1 : (t299 != t288) = false := bne_eq_false_iff_eq.mpr c66
                clear c66
                clear H
                go_wp2_with (first | ((with_reducible refine gate_callee (f := 21) rfl ?_); refine goesL_ (some 90) rfl rfl Try.func21 (by kernel_rfl) rfl #[.slice Ao50 t289.length co50, .int .i64 1] rfl (by (try simp only [List.map_toArray, List.map_cons, List.map_nil]); first | done | rfl | (simp only [List.length_drop, List.length_take]; rfl)) ?_; (with_reducible refine (laws_heldRatioS.calls kj48 _ _ t289 1 t299 _ ?side1 ?side2 A64.out).mono ?_); (case side1 => exact xd ((Kd.R_reads' HO_7.out).2.2)); (case side2 => exact (Kd.R_reads' HO_7.out).2.1); rintro e w' ⟨rfl, ⟨nd, rfl⟩⟩; refine ⟨_, rfl, ?_⟩))
                go_ret
                exact ⟨by first | rfl | (simp [errW_none, errW_some] <;> rfl) | (simp [*, errW_none, errW_some] <;> rfl), by repeat (first | (with_reducible first | exact HB.out | apply below_alloc | apply pw_below_drewN | apply below_drew1) | exact HB.out)⟩
               ·rw [if_neg c66] at H
                have c66b0 : (t299 == t288) = false := beq_eq_false_iff_ne.mpr c66
                have c66b1 : (t299 != t288) = true := bne_iff_ne.mpr c66
                exact absurd H (by simp)
          ·rw [if_neg c46] at H
           have c46b0 : (t290 == t288) = false := beq_eq_false_iff_ne.mpr c46
           have c46b1 : (t290 != t288) = true := bne_iff_ne.mpr c46
           exact absurd H (by simp)
     ·replace c26 := Bool.eq_false_iff.mpr c26
      subst c26
      have H1 : (some false) = some true := by first | (rw [if_neg (show ¬ (false = true) by decide)] at H; exact H) | rfl
      clear H
      have H := H1
      clear H1
      exact absurd H (by simp)

end Go.Proofs.Ytedkbaadbnpkoaa.PFnExactWaterAfter

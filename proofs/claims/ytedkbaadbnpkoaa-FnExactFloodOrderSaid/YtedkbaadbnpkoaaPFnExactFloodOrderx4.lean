/- Lean functions of the Go functions that the law FnExactFloodOrder reaches, and the proofs that the calls come to what they say (made by program). -/
import Derived.Test.YtedkbaadbnpkoaaAb
import Derived.Test.YtedkbaadbnpkoaaPFnExactFloodOrderx0
import Derived.Test.YtedkbaadbnpkoaaPFnExactFloodOrderx1
import Derived.Test.YtedkbaadbnpkoaaPFnExactFloodOrderx2
import Derived.Test.YtedkbaadbnpkoaaPFnExactFloodOrderx3
namespace Go.Proofs.Ytedkbaadbnpkoaa.PFnExactFloodOrder
open Go.RowKit Go.Proofs.YtedkbaadbnpkoaaW.PrintWords Go.Proofs.YtedkbaadbnpkoaaW.PrintLast Go.Proofs.YtedkbaadbnpkoaaW.PrintMore Go.Proofs.Ytedkbaadbnpkoaa.Ab
attribute [local go_sem] max2_int min2_int max_two min_two max_three min_three max_four min_four   -- for this text's walks alone
set_option linter.unusedVariables false
set_option linter.unusedSimpArgs false

/-! ### laws_FnExactFloodOrder: function 9 -/
mutual
def laws_FnExactFloodOrder.j0 : Nat → List (S66) → List Int → Bool → List (S63) → List Int → Bool → Bool → Option (Bool)
  | 0, _, _, _, _, _, _, _ => none
  | k + 1, x0, x4, x5, x6, x7, x8, x40 => if x40 = true then (some false) else ((laws_toTankS.f k x0).bind fun t202 => ((laws_eqTankS.f k x6 t202).bind fun t205 => (if t205 = true then ((laws_markTankS.f k x6 1).bind fun bt206 => (if bt206.1 < 0 then (laws_FnExactFloodOrder.j1 k x0 x4 x5 x7 true) else ((laws_eqIntS.f k x7 x4).bind fun t208 => (if t208 = true then (laws_FnExactFloodOrder.j1 k x0 x4 x5 x7 (x8 != x5)) else (laws_FnExactFloodOrder.j1 k x0 x4 x5 x7 true))))) else (some false))))
def laws_FnExactFloodOrder.j1 : Nat → List (S66) → List Int → Bool → List Int → Bool → Option (Bool)
  | 0, _, _, _, _, _ => none
  | k + 1, x0, x4, x5, x7, x61 => if x61 = true then (some false) else ((laws_markIntS.f k x7 1).bind fun bt209 => ((laws_heldIntS.f k bt209.2 1).bind fun t211 => (if t211 < 0 then (some false) else (if t211 = bt209.1 then ((laws_toTankS.f k x0).bind fun t212 => ((impl_FloodOrder.f t212).bind fun bt215 => ((laws_eqIntS.f k bt215.1 x4).bind fun t219 => (if t219 = true then (laws_FnExactFloodOrder.j2 k bt209.2 bt209.1 (bt215.2 != x5)) else (laws_FnExactFloodOrder.j2 k bt209.2 bt209.1 true))))) else (some false)))))
def laws_FnExactFloodOrder.j2 : Nat → List Int → Int → Bool → Option (Bool)
  | 0, _, _, _ => none
  | k + 1, x7, x10, x87 => if x87 = true then (some false) else ((laws_heldIntS.f k x7 1).bind fun t220 => (if t220 < 0 then (some false) else (if t220 = x10 then (some true) else (some false))))
end
def laws_FnExactFloodOrder.f (k : Nat) (l0 : List (S66)) : Option (Bool) := (laws_szTankS.f l0 1048576).bind fun t186 => (if t186 < 0 then (some true) else ((laws_toTankS.f k l0).bind fun t187 => ((spec_FloodOrder.f k t187).bind fun bt190 => ((laws_toTankS.f k l0).bind fun t194 => ((impl_FloodOrder.f t194).bind fun bt197 => ((laws_eqIntS.f k bt197.1 bt190.1).bind fun t201 => (if t201 = true then (laws_FnExactFloodOrder.j0 k l0 bt190.1 bt190.2 t194 bt197.1 bt197.2 (bt197.2 != bt190.2)) else (laws_FnExactFloodOrder.j0 k l0 bt190.1 bt190.2 t194 bt197.1 bt197.2 true))))))))
theorem laws_FnExactFloodOrder.mono_l : ∀ k, (∀ y0 y1 y2 y3 y4 y5 y6, LeO (laws_FnExactFloodOrder.j0 k y0 y1 y2 y3 y4 y5 y6) (laws_FnExactFloodOrder.j0 (k + 1) y0 y1 y2 y3 y4 y5 y6)) ∧ (∀ y0 y1 y2 y3 y4, LeO (laws_FnExactFloodOrder.j1 k y0 y1 y2 y3 y4) (laws_FnExactFloodOrder.j1 (k + 1) y0 y1 y2 y3 y4)) ∧ (∀ y0 y1 y2, LeO (laws_FnExactFloodOrder.j2 k y0 y1 y2) (laws_FnExactFloodOrder.j2 (k + 1) y0 y1 y2))
 | 0 => ⟨fun _ _ _ _ _ _ _ r h => by simp [laws_FnExactFloodOrder.j0] at h, fun _ _ _ _ _ r h => by simp [laws_FnExactFloodOrder.j1] at h, fun _ _ _ r h => by simp [laws_FnExactFloodOrder.j2] at h⟩
 | k + 1 => by
  obtain ⟨ih0, ih1, ih2⟩ := laws_FnExactFloodOrder.mono_l k
  refine ⟨?_, ?_, ?_⟩
  ·intro y0 y1 y2 y3 y4 y5 y6
   unfold laws_FnExactFloodOrder.j0
   repeat' first
   | (with_reducible exact ih0 _ _ _ _ _ _ _)
   | (with_reducible exact ih1 _ _ _ _ _)
   | (with_reducible exact ih2 _ _ _)
   | (with_reducible exact laws_eqIntS.mono _ _ _)
   | (with_reducible exact laws_eqTankS.mono _ _ _)
   | (with_reducible exact laws_heldIntS.mono _ _ _)
   | (with_reducible exact laws_markIntS.mono _ _ _)
   | (with_reducible exact laws_markTankS.mono _ _ _)
   | (with_reducible exact laws_toTankS.mono _ _)
   | (with_reducible exact spec_FloodOrder.mono _ _)
   | (with_reducible exact LeO.refl _)
   | (with_reducible exact LeO.none _)
   | (with_reducible refine LeO.ite ?_ ?_)
   | (with_reducible refine LeO.bind ?_ (fun _ => ?_))
   | exact ih0 _ _ _ _ _ _ _
   | exact ih1 _ _ _ _ _
   | exact ih2 _ _ _
   | exact laws_eqIntS.mono _ _ _
   | exact laws_eqTankS.mono _ _ _
   | exact laws_heldIntS.mono _ _ _
   | exact laws_markIntS.mono _ _ _
   | exact laws_markTankS.mono _ _ _
   | exact laws_toTankS.mono _ _
   | exact spec_FloodOrder.mono _ _
   | exact LeO.none _
   | refine LeO.ite ?_ ?_
   | refine LeO.bind ?_ (fun _ => ?_)
  ·intro y0 y1 y2 y3 y4
   unfold laws_FnExactFloodOrder.j1
   repeat' first
   | (with_reducible exact ih0 _ _ _ _ _ _ _)
   | (with_reducible exact ih1 _ _ _ _ _)
   | (with_reducible exact ih2 _ _ _)
   | (with_reducible exact laws_eqIntS.mono _ _ _)
   | (with_reducible exact laws_eqTankS.mono _ _ _)
   | (with_reducible exact laws_heldIntS.mono _ _ _)
   | (with_reducible exact laws_markIntS.mono _ _ _)
   | (with_reducible exact laws_markTankS.mono _ _ _)
   | (with_reducible exact laws_toTankS.mono _ _)
   | (with_reducible exact spec_FloodOrder.mono _ _)
   | (with_reducible exact LeO.refl _)
   | (with_reducible exact LeO.none _)
   | (with_reducible refine LeO.ite ?_ ?_)
   | (with_reducible refine LeO.bind ?_ (fun _ => ?_))
   | exact ih0 _ _ _ _ _ _ _
   | exact ih1 _ _ _ _ _
   | exact ih2 _ _ _
   | exact laws_eqIntS.mono _ _ _
   | exact laws_eqTankS.mono _ _ _
   | exact laws_heldIntS.mono _ _ _
   | exact laws_markIntS.mono _ _ _
   | exact laws_markTankS.mono _ _ _
   | exact laws_toTankS.mono _ _
   | exact spec_FloodOrder.mono _ _
   | exact LeO.none _
   | refine LeO.ite ?_ ?_
   | refine LeO.bind ?_ (fun _ => ?_)
  ·intro y0 y1 y2
   unfold laws_FnExactFloodOrder.j2
   repeat' first
   | (with_reducible exact ih0 _ _ _ _ _ _ _)
   | (with_reducible exact ih1 _ _ _ _ _)
   | (with_reducible exact ih2 _ _ _)
   | (with_reducible exact laws_eqIntS.mono _ _ _)
   | (with_reducible exact laws_eqTankS.mono _ _ _)
   | (with_reducible exact laws_heldIntS.mono _ _ _)
   | (with_reducible exact laws_markIntS.mono _ _ _)
   | (with_reducible exact laws_markTankS.mono _ _ _)
   | (with_reducible exact laws_toTankS.mono _ _)
   | (with_reducible exact spec_FloodOrder.mono _ _)
   | (with_reducible exact LeO.refl _)
   | (with_reducible exact LeO.none _)
   | (with_reducible refine LeO.ite ?_ ?_)
   | (with_reducible refine LeO.bind ?_ (fun _ => ?_))
   | exact ih0 _ _ _ _ _ _ _
   | exact ih1 _ _ _ _ _
   | exact ih2 _ _ _
   | exact laws_eqIntS.mono _ _ _
   | exact laws_eqTankS.mono _ _ _
   | exact laws_heldIntS.mono _ _ _
   | exact laws_markIntS.mono _ _ _
   | exact laws_markTankS.mono _ _ _
   | exact laws_toTankS.mono _ _
   | exact spec_FloodOrder.mono _ _
   | exact LeO.none _
   | refine LeO.ite ?_ ?_
   | refine LeO.bind ?_ (fun _ => ?_)
theorem laws_FnExactFloodOrder.mono : ∀ a0 k, LeO (laws_FnExactFloodOrder.f k a0) (laws_FnExactFloodOrder.f (k + 1) a0) := by
 intro a0 k
 obtain ⟨ih0, ih1, ih2⟩ := laws_FnExactFloodOrder.mono_l k
 unfold laws_FnExactFloodOrder.f
 repeat' first
   | (with_reducible exact ih0 _ _ _ _ _ _ _)
   | (with_reducible exact ih1 _ _ _ _ _)
   | (with_reducible exact ih2 _ _ _)
   | (with_reducible exact laws_eqIntS.mono _ _ _)
   | (with_reducible exact laws_eqTankS.mono _ _ _)
   | (with_reducible exact laws_heldIntS.mono _ _ _)
   | (with_reducible exact laws_markIntS.mono _ _ _)
   | (with_reducible exact laws_markTankS.mono _ _ _)
   | (with_reducible exact laws_toTankS.mono _ _)
   | (with_reducible exact spec_FloodOrder.mono _ _)
   | (with_reducible exact LeO.refl _)
   | (with_reducible exact LeO.none _)
   | (with_reducible refine LeO.ite ?_ ?_)
   | (with_reducible refine LeO.bind ?_ (fun _ => ?_))
   | exact ih0 _ _ _ _ _ _ _
   | exact ih1 _ _ _ _ _
   | exact ih2 _ _ _
   | exact laws_eqIntS.mono _ _ _
   | exact laws_eqTankS.mono _ _ _
   | exact laws_heldIntS.mono _ _ _
   | exact laws_markIntS.mono _ _ _
   | exact laws_markTankS.mono _ _ _
   | exact laws_toTankS.mono _ _
   | exact spec_FloodOrder.mono _ _
   | exact LeO.none _
   | refine LeO.ite ?_ ?_
   | refine LeO.bind ?_ (fun _ => ?_)
set_option maxHeartbeats 8000000 in
set_option maxRecDepth 100000 in
theorem laws_FnExactFloodOrder.calls (k : Nat) (A0 : Option Addr) (c0 : Nat) (l0 : List (S66)) (w : World) (hr0 : Kd.C k66 w A0 l0.length l0) (hc0 : l0.length ≤ c0) (h : laws_FnExactFloodOrder.f k l0 = some true) :
  Calls Try.prog 9 #[.slice A0 l0.length c0] w fun e w' => e = .returned (.bool true) ∧ Below w.heap.size w w' := by
 have HR0 := Aside0.mk hr0
 have HC0 := Aside0.mk hc0
 clear hr0 hc0
 have HB := Aside0.mk (Below.refl w.heap.size w)
 have H : ((laws_szTankS.f l0 1048576).bind fun t186 => (if t186 < 0 then (some true) else ((laws_toTankS.f k l0).bind fun t187 => ((spec_FloodOrder.f k t187).bind fun bt190 => ((laws_toTankS.f k l0).bind fun t194 => ((impl_FloodOrder.f t194).bind fun bt197 => ((laws_eqIntS.f k bt197.1 bt190.1).bind fun t201 => (if t201 = true then (laws_FnExactFloodOrder.j0 k l0 bt190.1 bt190.2 t194 bt197.1 bt197.2 (bt197.2 != bt190.2)) else (laws_FnExactFloodOrder.j0 k l0 bt190.1 bt190.2 t194 bt197.1 bt197.2 true))))))))) = some true := h
 clear h
 replace H := Option.bind_eq_some_iff.mp H
 obtain ⟨t186, A20, H⟩ := H
 replace H : (if t186 < 0 then (some true) else ((laws_toTankS.f k l0).bind fun t187 => ((spec_FloodOrder.f k t187).bind fun bt190 => ((laws_toTankS.f k l0).bind fun t194 => ((impl_FloodOrder.f t194).bind fun bt197 => ((laws_eqIntS.f k bt197.1 bt190.1).bind fun t201 => (if t201 = true then (laws_FnExactFloodOrder.j0 k l0 bt190.1 bt190.2 t194 bt197.1 bt197.2 (bt197.2 != bt190.2)) else (laws_FnExactFloodOrder.j0 k l0 bt190.1 bt190.2 t194 bt197.1 bt197.2 true)))))))) = some true := H
 have A2 := Aside0.mk A20
 clear A20
 by_cases c3 : t186 < 0
 ·rw [if_pos c3] at H
  have c3b0 : decide (t186 < 0) = true := decide_eq_true c3
  clear c3
  clear H
  go_enter Try.func9, Try.ntmps9
  go_wp2_with (first | ((with_reducible refine gate_callee (f := 13) rfl ?_); refine goesL_ (some 16) rfl rfl Try.func13 (by kernel_rfl) rfl #[.slice A0 l0.length c0, .int .i64 1048576] rfl (by (try simp only [List.map_toArray, List.map_cons, List.map_nil]); first | done | rfl | (simp only [List.length_drop, List.length_take]; rfl)) ?_; (with_reducible refine (laws_szTankS.calls _ _ l0 1048576 t186 _ ?side1 ?side2 A2.out).mono ?_); (case side1 => exact xd (HR0.out)); (case side2 => exact HC0.out); rintro e w' ⟨rfl, ⟨nd, rfl⟩⟩; refine ⟨_, rfl, ?_⟩))
  go_ret
  exact ⟨by first | rfl | (simp [errW_none, errW_some] <;> rfl) | (simp [*, errW_none, errW_some] <;> rfl), by repeat (first | (with_reducible first | exact HB.out | apply below_alloc | apply pw_below_drewN | apply below_drew1) | exact HB.out)⟩
 ·rw [if_neg c3] at H
  have c3b0 : decide (t186 < 0) = false := decide_eq_false c3
  clear c3
  replace H := Option.bind_eq_some_iff.mp H
  obtain ⟨t187, A40, H⟩ := H
  replace H : ((spec_FloodOrder.f k t187).bind fun bt190 => ((laws_toTankS.f k l0).bind fun t194 => ((impl_FloodOrder.f t194).bind fun bt197 => ((laws_eqIntS.f k bt197.1 bt190.1).bind fun t201 => (if t201 = true then (laws_FnExactFloodOrder.j0 k l0 bt190.1 bt190.2 t194 bt197.1 bt197.2 (bt197.2 != bt190.2)) else (laws_FnExactFloodOrder.j0 k l0 bt190.1 bt190.2 t194 bt197.1 bt197.2 true)))))) = some true := H
  have A4 := Aside0.mk A40
  clear A40
  replace H := Option.bind_eq_some_iff.mp H
  obtain ⟨⟨t190, t191⟩, A50, H⟩ := H
  replace H : ((laws_toTankS.f k l0).bind fun t194 => ((impl_FloodOrder.f t194).bind fun bt197 => ((laws_eqIntS.f k bt197.1 t190).bind fun t201 => (if t201 = true then (laws_FnExactFloodOrder.j0 k l0 t190 t191 t194 bt197.1 bt197.2 (bt197.2 != t191)) else (laws_FnExactFloodOrder.j0 k l0 t190 t191 t194 bt197.1 bt197.2 true))))) = some true := H
  have A5 := Aside0.mk A50
  clear A50
  replace H := Option.bind_eq_some_iff.mp H
  obtain ⟨t194, A60, H⟩ := H
  replace H : ((impl_FloodOrder.f t194).bind fun bt197 => ((laws_eqIntS.f k bt197.1 t190).bind fun t201 => (if t201 = true then (laws_FnExactFloodOrder.j0 k l0 t190 t191 t194 bt197.1 bt197.2 (bt197.2 != t191)) else (laws_FnExactFloodOrder.j0 k l0 t190 t191 t194 bt197.1 bt197.2 true)))) = some true := H
  have A6 := Aside0.mk A60
  clear A60
  replace H := Option.bind_eq_some_iff.mp H
  obtain ⟨⟨t197, t198⟩, A70, H⟩ := H
  replace H : ((laws_eqIntS.f k t197 t190).bind fun t201 => (if t201 = true then (laws_FnExactFloodOrder.j0 k l0 t190 t191 t194 t197 t198 (t198 != t191)) else (laws_FnExactFloodOrder.j0 k l0 t190 t191 t194 t197 t198 true))) = some true := H
  have A7 := Aside0.mk A70
  clear A70
  have HC8 := Aside0.mk H
  clear H
  go_enter Try.func9, Try.ntmps9
  go_upto_region 8 with (first | ((with_reducible refine gate_callee (f := 13) rfl ?_); refine goesL_ (some 16) rfl rfl Try.func13 (by kernel_rfl) rfl #[.slice A0 l0.length c0, .int .i64 1048576] rfl (by (try simp only [List.map_toArray, List.map_cons, List.map_nil]); first | done | rfl | (simp only [List.length_drop, List.length_take]; rfl)) ?_; (with_reducible refine (laws_szTankS.calls _ _ l0 1048576 t186 _ ?side1 ?side2 A2.out).mono ?_); (case side1 => exact xd (HR0.out)); (case side2 => exact HC0.out); rintro e w' ⟨rfl, ⟨nd, rfl⟩⟩; refine ⟨_, rfl, ?_⟩) | ((with_reducible refine gate_callee (f := 15) rfl ?_); refine goesL_ (some 21) rfl rfl Try.func15 (by kernel_rfl) rfl #[.slice A0 l0.length c0] rfl (by (try simp only [List.map_toArray, List.map_cons, List.map_nil]); first | done | rfl | (simp only [List.length_drop, List.length_take]; rfl)) ?_; (with_reducible refine (laws_toTankS.calls k _ _ l0 t187 _ ?side1 ?side2 A4.out).mono ?_); (case side1 => exact xd (HR0.out)); (case side2 => exact HC0.out); rintro e w9 ⟨v188, rfl, ho0, hb⟩; refine ⟨_, rfl, ?_⟩; have HO189 := Aside0.mk (Kd.R_lower ho0 (below_size (xs HB.out))); replace HB := xp HB hb; (try clear hb); (try clear hb2); (try clear hk); (try clear hi); (try clear ho0); obtain ⟨Ao10, co10, eo10⟩ := Kd.R_slice HO189.out; subst eo10) | ((with_reducible refine gate_callee (f := 39) rfl ?_); refine goesL_ (some 22) rfl rfl Try.func39 (by kernel_rfl) rfl #[.slice Ao10 t187.length co10] rfl (by (try simp only [List.map_toArray, List.map_cons, List.map_nil]); first | done | rfl | (simp only [List.length_drop, List.length_take]; rfl)) ?_; (with_reducible refine (spec_FloodOrder.calls k _ _ t187 t190 t191 _ ?side1 ?side2 A5.out).mono ?_); (case side1 => exact xd ((Kd.R_reads' HO189.out).2.2)); (case side2 => exact (Kd.R_reads' HO189.out).2.1); rintro e w11 ⟨v192, rfl, ho0, hb⟩; refine ⟨_, rfl, ?_⟩; replace HO189 := xq HO189 hb; have HO193 := Aside0.mk (Kd.R_lower ho0 (below_size (xs HB.out))); replace HB := xp HB hb; (try clear hb); (try clear hb2); (try clear hk); (try clear hi); (try clear ho0)) | ((with_reducible refine gate_callee (f := 15) rfl ?_); refine goesL_ (some 26) rfl rfl Try.func15 (by kernel_rfl) rfl #[.slice A0 l0.length c0] rfl (by (try simp only [List.map_toArray, List.map_cons, List.map_nil]); first | done | rfl | (simp only [List.length_drop, List.length_take]; rfl)) ?_; (with_reducible refine (laws_toTankS.calls k _ _ l0 t194 _ ?side1 ?side2 A6.out).mono ?_); (case side1 => exact xd ((Kd.C_below HR0.out HB.out))); (case side2 => exact HC0.out); rintro e w12 ⟨v195, rfl, ho0, hb⟩; refine ⟨_, rfl, ?_⟩; replace HO193 := xq HO193 hb; have HO196 := Aside0.mk (Kd.R_lower (Kd.R_new' ho0 (Kd.R_lt (xr HO189.out))) (below_size (xs HB.out))); replace HO189 := Aside0.mk (Kd.R_elder' (xr HO189.out) (Kd.R_base ho0) hb); replace HB := xp HB hb; (try clear hb); (try clear hb2); (try clear hk); (try clear hi); (try clear ho0); obtain ⟨Ao13, co13, eo13⟩ := Kd.R_slice HO196.out; subst eo13) | ((with_reducible refine gate_callee (f := 40) rfl ?_); refine goesL_ (some 29) rfl rfl Try.func40 (by kernel_rfl) rfl #[.slice Ao13 t194.length co13] rfl (by (try simp only [List.map_toArray, List.map_cons, List.map_nil]); first | done | rfl | (simp only [List.length_drop, List.length_take]; rfl)) ?_; (with_reducible refine (impl_FloodOrder.calls _ _ t194 t197 t198 _ ?side1 ?side2 A7.out).mono ?_); (case side1 => exact xd ((Kd.R_reads' HO196.out).2.2)); (case side2 => exact (Kd.R_reads' HO196.out).2.1); rintro e w14 ⟨v199, rfl, ho0, hb⟩; refine ⟨_, rfl, ?_⟩; replace HO189 := xq HO189 hb; replace HO196 := xq HO196 hb; have HO200 := Aside0.mk (Kd.R_lower (Kd.R_new' ho0 (Kd.R_lt (xr HO193.out))) (below_size (xs HB.out))); replace HO193 := Aside0.mk (Kd.R_elder' (xr HO193.out) (Kd.R_base ho0) hb); replace HB := xp HB hb; (try clear hb); (try clear hb2); (try clear hk); (try clear hi); (try clear ho0)))
  (try simp only [Act.put, List.setIfInBounds_toArray, List.set_cons_zero, List.set_cons_succ])
  go_cut [40] (fun v40 wc => ∃ (kq : Nat) (x40_7 : Bool), v40 = .bool x40_7 ∧ Aside0 (laws_FnExactFloodOrder.j0 kq l0 t190 t191 t194 t197 t198 x40_7 = some true) ∧ Aside0 (kq ≤ k) ∧ Aside0 (Kd.R (Kd.int .i64) 3 wc w.heap.size (fun k_ => nV k_ v199) v192 t190) ∧ Aside0 (Kd.R k63 63 wc w.heap.size (fun _ => True) (.slice Ao13 t194.length co13) t194) ∧ Aside0 (Kd.R (Kd.int .i64) 3 wc w.heap.size (fun k_ => nV k_ v192) v199 t197) ∧ Aside0 (Below w.heap.size w wc))
  case first =>
   have H := HC8.out
   clear HC8
   replace H := Option.bind_eq_some_iff.mp H
   obtain ⟨t201, A150, H⟩ := H
   replace H : (if t201 = true then (laws_FnExactFloodOrder.j0 k l0 t190 t191 t194 t197 t198 (t198 != t191)) else (laws_FnExactFloodOrder.j0 k l0 t190 t191 t194 t197 t198 true)) = some true := H
   have A15 := Aside0.mk A150
   clear A150
   by_cases c16 : t201 = true
   ·subst c16
    have H1 : (laws_FnExactFloodOrder.j0 k l0 t190 t191 t194 t197 t198 (t198 != t191)) = some true := by first | (rw [if_pos rfl] at H; exact H) | rfl
    clear H
    have H := H1
    clear H1
    have H' := Aside0.mk H
    clear H
    obtain ⟨Ao17, co17, eo17⟩ := Kd.R_slice HO200.out
    subst eo17
    obtain ⟨Ao18, co18, eo18⟩ := Kd.R_slice HO193.out
    subst eo18
    go_wp2_with (first | ((with_reducible refine gate_callee (f := 41) rfl ?_); refine goesL_ (some 34) rfl rfl Try.func41 (by kernel_rfl) rfl #[.slice Ao17 t197.length co17, .slice Ao18 t190.length co18] rfl (by (try simp only [List.map_toArray, List.map_cons, List.map_nil]); first | done | rfl | (simp only [List.length_drop, List.length_take]; rfl)) ?_; (with_reducible refine (laws_eqIntS.calls k _ _ t197 _ _ t190 true _ ?side1 ?side2 ?side3 ?side4 A15.out).mono ?_); (case side1 => exact xd ((Kd.R_reads' HO200.out).2.2)); (case side2 => exact (Kd.R_reads' HO200.out).2.1); (case side3 => exact xd ((Kd.R_reads' HO193.out).2.2)); (case side4 => exact (Kd.R_reads' HO193.out).2.1); rintro e w' ⟨rfl, ⟨nd, rfl⟩⟩; refine ⟨_, rfl, ?_⟩))
    go_meet
    case rel => exact ⟨_, ((t198 != t191)), (by first | rfl | (simp; done) | (simp [*]; done)), H', ⟨by first | omega | exact Nat.le_refl _⟩, ⟨xm HO193 (fun _ hk => hk.2)⟩, ⟨xm HO196 (fun _ hk => trivial)⟩, ⟨xm HO200 (fun _ hk => hk.2)⟩, ⟨xs HB.out⟩⟩
   ·replace c16 := Bool.eq_false_iff.mpr c16
    subst c16
    have H1 : (laws_FnExactFloodOrder.j0 k l0 t190 t191 t194 t197 t198 true) = some true := by first | (rw [if_neg (show ¬ (false = true) by decide)] at H; exact H) | rfl
    clear H
    have H := H1
    clear H1
    have H' := Aside0.mk H
    clear H
    obtain ⟨Ao19, co19, eo19⟩ := Kd.R_slice HO200.out
    subst eo19
    obtain ⟨Ao20, co20, eo20⟩ := Kd.R_slice HO193.out
    subst eo20
    go_wp2_with (first | ((with_reducible refine gate_callee (f := 41) rfl ?_); refine goesL_ (some 34) rfl rfl Try.func41 (by kernel_rfl) rfl #[.slice Ao19 t197.length co19, .slice Ao20 t190.length co20] rfl (by (try simp only [List.map_toArray, List.map_cons, List.map_nil]); first | done | rfl | (simp only [List.length_drop, List.length_take]; rfl)) ?_; (with_reducible refine (laws_eqIntS.calls k _ _ t197 _ _ t190 false _ ?side1 ?side2 ?side3 ?side4 A15.out).mono ?_); (case side1 => exact xd ((Kd.R_reads' HO200.out).2.2)); (case side2 => exact (Kd.R_reads' HO200.out).2.1); (case side3 => exact xd ((Kd.R_reads' HO193.out).2.2)); (case side4 => exact (Kd.R_reads' HO193.out).2.1); rintro e w' ⟨rfl, ⟨nd, rfl⟩⟩; refine ⟨_, rfl, ?_⟩))
    go_meet
    case rel => exact ⟨_, (true), (by first | rfl | (simp; done) | (simp [*]; done)), H', ⟨by first | omega | exact Nat.le_refl _⟩, ⟨xm HO193 (fun _ hk => hk.2)⟩, ⟨xm HO196 (fun _ hk => trivial)⟩, ⟨xm HO200 (fun _ hk => hk.2)⟩, ⟨xs HB.out⟩⟩
  case rest =>
   clear HC8
   try clear c1
   try clear p2
   try clear c3
   try clear c3b0
   try clear c4
   try clear c9
   try clear c13
   try clear c15
   try clear c16
   obtain ⟨kq, x40_7, rfl, HA, HJ7, HO_4, HO_6, HO_7, HB⟩ := hcut
   cases kq with
   | zero => exact absurd HA.out (by simp [laws_FnExactFloodOrder.j0])
   | succ kj7 =>
    have H := HA.out
    clear HA
    simp only [laws_FnExactFloodOrder.j0] at H
    by_cases c21 : x40_7 = true
    ·subst c21
     have H1 : (some false) = some true := by first | (rw [if_pos rfl] at H; exact H) | rfl
     clear H
     have H := H1
     clear H1
     exact absurd H (by simp)
    ·replace c21 := Bool.eq_false_iff.mpr c21
     subst c21
     have H1 : ((laws_toTankS.f kj7 l0).bind fun t202 => ((laws_eqTankS.f kj7 t194 t202).bind fun t205 => (if t205 = true then ((laws_markTankS.f kj7 t194 1).bind fun bt206 => (if bt206.1 < 0 then (laws_FnExactFloodOrder.j1 kj7 l0 t190 t191 t197 true) else ((laws_eqIntS.f kj7 t197 t190).bind fun t208 => (if t208 = true then (laws_FnExactFloodOrder.j1 kj7 l0 t190 t191 t197 (t198 != t191)) else (laws_FnExactFloodOrder.j1 kj7 l0 t190 t191 t197 true))))) else (some false)))) = some true := by first | (rw [if_neg (show ¬ (false = true) by decide)] at H; exact H) | rfl
     clear H
     have H := H1
     clear H1
     replace H := Option.bind_eq_some_iff.mp H
     obtain ⟨t202, A220, H⟩ := H
     replace H : ((laws_eqTankS.f kj7 t194 t202).bind fun t205 => (if t205 = true then ((laws_markTankS.f kj7 t194 1).bind fun bt206 => (if bt206.1 < 0 then (laws_FnExactFloodOrder.j1 kj7 l0 t190 t191 t197 true) else ((laws_eqIntS.f kj7 t197 t190).bind fun t208 => (if t208 = true then (laws_FnExactFloodOrder.j1 kj7 l0 t190 t191 t197 (t198 != t191)) else (laws_FnExactFloodOrder.j1 kj7 l0 t190 t191 t197 true))))) else (some false))) = some true := H
     have A22 := Aside0.mk A220
     clear A220
     replace H := Option.bind_eq_some_iff.mp H
     obtain ⟨t205, A230, H⟩ := H
     replace H : (if t205 = true then ((laws_markTankS.f kj7 t194 1).bind fun bt206 => (if bt206.1 < 0 then (laws_FnExactFloodOrder.j1 kj7 l0 t190 t191 t197 true) else ((laws_eqIntS.f kj7 t197 t190).bind fun t208 => (if t208 = true then (laws_FnExactFloodOrder.j1 kj7 l0 t190 t191 t197 (t198 != t191)) else (laws_FnExactFloodOrder.j1 kj7 l0 t190 t191 t197 true))))) else (some false)) = some true := H
     have A23 := Aside0.mk A230
     clear A230
     by_cases c24 : t205 = true
     ·subst c24
      have H1 : ((laws_markTankS.f kj7 t194 1).bind fun bt206 => (if bt206.1 < 0 then (laws_FnExactFloodOrder.j1 kj7 l0 t190 t191 t197 true) else ((laws_eqIntS.f kj7 t197 t190).bind fun t208 => (if t208 = true then (laws_FnExactFloodOrder.j1 kj7 l0 t190 t191 t197 (t198 != t191)) else (laws_FnExactFloodOrder.j1 kj7 l0 t190 t191 t197 true))))) = some true := by first | (rw [if_pos rfl] at H; exact H) | rfl
      clear H
      have H := H1
      clear H1
      replace H := Option.bind_eq_some_iff.mp H
      obtain ⟨⟨t206, t207⟩, A250, H⟩ := H
      replace H : (if t206 < 0 then (laws_FnExactFloodOrder.j1 kj7 l0 t190 t191 t197 true) else ((laws_eqIntS.f kj7 t197 t190).bind fun t208 => (if t208 = true then (laws_FnExactFloodOrder.j1 kj7 l0 t190 t191 t197 (t198 != t191)) else (laws_FnExactFloodOrder.j1 kj7 l0 t190 t191 t197 true)))) = some true := H
      have A25 := Aside0.mk A250
      clear A250
      have HC26 := Aside0.mk H
      clear H
      go_upto_region 14 with (first | ((with_reducible refine gate_callee (f := 15) rfl ?_); refine goesL_ (some 43) rfl rfl Try.func15 (by kernel_rfl) rfl #[.slice A0 l0.length c0] rfl (by (try simp only [List.map_toArray, List.map_cons, List.map_nil]); first | done | rfl | (simp only [List.length_drop, List.length_take]; rfl)) ?_; (with_reducible refine (laws_toTankS.calls kj7 _ _ l0 t202 _ ?side1 ?side2 A22.out).mono ?_); (case side1 => exact xd ((Kd.C_below HR0.out HB.out))); (case side2 => exact HC0.out); rintro e w27 ⟨v203, rfl, ho0, hb⟩; refine ⟨_, rfl, ?_⟩; replace HO_4 := xq HO_4 hb; replace HO_7 := xq HO_7 hb; have HO204 := Aside0.mk (Kd.R_lower (Kd.R_new' ho0 (Kd.R_lt (xr HO_6.out))) (below_size (xs HB.out))); replace HO_6 := Aside0.mk (Kd.R_elder' (xr HO_6.out) (Kd.R_base ho0) hb); replace HB := xp HB hb; (try clear hb); (try clear hb2); (try clear hk); (try clear hi); (try clear ho0); obtain ⟨Ao28, co28, eo28⟩ := Kd.R_slice HO204.out; subst eo28) | ((with_reducible refine gate_callee (f := 18) rfl ?_); refine goesL_ (some 44) rfl rfl Try.func18 (by kernel_rfl) rfl #[.slice Ao13 t194.length co13, .slice Ao28 t202.length co28] rfl (by (try simp only [List.map_toArray, List.map_cons, List.map_nil]); first | done | rfl | (simp only [List.length_drop, List.length_take]; rfl)) ?_; (with_reducible refine (laws_eqTankS.calls kj7 _ _ t194 _ _ t202 true _ ?side1 ?side2 ?side3 ?side4 A23.out).mono ?_); (case side1 => exact xd ((Kd.R_reads' HO_6.out).2.2)); (case side2 => exact (Kd.R_reads' HO_6.out).2.1); (case side3 => exact xd ((Kd.R_reads' HO204.out).2.2)); (case side4 => exact (Kd.R_reads' HO204.out).2.1); rintro e w29 ⟨rfl, hb⟩; refine ⟨_, rfl, ?_⟩; replace HO_4 := xq HO_4 hb; replace HO_6 := xq HO_6 hb; replace HO_7 := xq HO_7 hb; replace HO204 := xq HO204 hb; replace HB := xp HB hb; (try clear hb); (try clear hb2); (try clear hk); (try clear hi)) | ((with_reducible refine gate_callee (f := 19) rfl ?_); refine goesL_ (some 48) rfl rfl Try.func19 (by kernel_rfl) rfl #[.slice Ao13 t194.length co13, .int .i64 1] rfl (by (try simp only [List.map_toArray, List.map_cons, List.map_nil]); first | done | rfl | (simp only [List.length_drop, List.length_take]; rfl)) ?_; (with_reducible refine (laws_markTankS.calls kj7 (fun k_ => some k_ = (.slice Ao13 t194.length co13 : Value).ownBlock) (.slice Ao13 t194.length co13) t194 1 t206 t207 w _ ?side1 ?side2 A25.out).mono ?_); (case side1 => repeat (first | (with_reducible first | exact HB.out | apply below_alloc | apply pw_below_drewN | apply below_drew1) | exact HB.out)); (case side2 => exact Kd.R_tight rfl HO_6.out); rintro e w30 ⟨rfl, hy0, hb, hkp⟩; refine ⟨_, rfl, ?_⟩; replace HO_4 := Aside0.mk (Kd.R_mono (ok' := fun k_ => nV k_ v199) (Kd.R_keptB ((Kd.R_apart' HO_4.out (Kd.R_typed HO_6.out) (by decide))) hkp (fun k_ hk_ hs_ => (hk_.2) hs_)) (fun k_ hk_ => hk_.1.1)); replace HO_7 := Aside0.mk (Kd.R_mono (ok' := fun k_ => nV k_ v192) (Kd.R_keptB ((Kd.R_apart' HO_7.out (Kd.R_typed HO_6.out) (by decide))) hkp (fun k_ hk_ hs_ => (hk_.2) hs_)) (fun k_ hk_ => hk_.1.1)); replace HO_6 := Aside0.mk (Kd.R_reok rfl hy0 (fun k_ e_ => HO_6.out.1 k_ e_)); replace HO204 := Aside0.mk (Kd.R_mono (ok' := fun k_ => nS k_ Ao13 t194.length co13) (Kd.R_keptB (HO204.out) hkp (fun k_ hk_ hs_ => (hk_.2) hs_)) (fun k_ hk_ => hk_.1.2)); replace HB := Aside0.mk (hb); (try clear hb); (try clear hkp); (try clear hy0)))
      (try simp only [Act.put, List.setIfInBounds_toArray, List.set_cons_zero, List.set_cons_succ])
      go_cut [61] (fun v61 wc => ∃ (kq : Nat) (x61_25 : Bool), v61 = .bool x61_25 ∧ Aside0 (laws_FnExactFloodOrder.j1 kq l0 t190 t191 t197 x61_25 = some true) ∧ Aside0 (kq ≤ kj7) ∧ Aside0 (Kd.R (Kd.int .i64) 3 wc w.heap.size (fun k_ => nV k_ v199) v192 t190) ∧ Aside0 (Kd.R (Kd.int .i64) 3 wc w.heap.size (fun k_ => nV k_ v192) v199 t197) ∧ Aside0 (Below w.heap.size w wc))
      case first =>
       have H := HC26.out
       clear HC26
       by_cases c31 : t206 < 0
       ·rw [if_pos c31] at H
        have c31b0 : decide (t206 < 0) = true := decide_eq_true c31
        clear c31
        (first | rw [c31b0] | (simp only [i64_w, i32_w]; rw [c31b0]) | skip)
        have H' := Aside0.mk H
        clear H
        go_wp2
        go_meet
        case rel => exact ⟨_, (true), (by first | rfl | (simp; done) | (simp [*]; done)), H', ⟨by have := HJ7.out; first | omega | exact Nat.le_refl _⟩, ⟨xr HO_4.out⟩, ⟨xr HO_7.out⟩, ⟨xs HB.out⟩⟩
       ·rw [if_neg c31] at H
        have c31b0 : decide (t206 < 0) = false := decide_eq_false c31
        clear c31
        (first | rw [c31b0] | (simp only [i64_w, i32_w]; rw [c31b0]) | skip)
        replace H := Option.bind_eq_some_iff.mp H
        obtain ⟨t208, A320, H⟩ := H
        replace H : (if t208 = true then (laws_FnExactFloodOrder.j1 kj7 l0 t190 t191 t197 (t198 != t191)) else (laws_FnExactFloodOrder.j1 kj7 l0 t190 t191 t197 true)) = some true := H
        have A32 := Aside0.mk A320
        clear A320
        by_cases c33 : t208 = true
        ·subst c33
         have H1 : (laws_FnExactFloodOrder.j1 kj7 l0 t190 t191 t197 (t198 != t191)) = some true := by first | (rw [if_pos rfl] at H; exact H) | rfl
         clear H
         have H := H1
         clear H1
         have H' := Aside0.mk H
         clear H
         obtain ⟨Ao34, co34, eo34⟩ := Kd.R_slice HO_7.out
         subst eo34
         obtain ⟨Ao35, co35, eo35⟩ := Kd.R_slice HO_4.out
         subst eo35
         go_wp2_with (first | (go_at_call 41; (with_reducible refine (laws_eqIntS.calls kj7 _ _ t197 _ _ t190 true _ ?side1 ?side2 ?side3 ?side4 A32.out).mono ?_); (case side1 => exact xd ((Kd.R_reads' HO_7.out).2.2)); (case side2 => exact (Kd.R_reads' HO_7.out).2.1); (case side3 => exact xd ((Kd.R_reads' HO_4.out).2.2)); (case side4 => exact (Kd.R_reads' HO_4.out).2.1); rintro e w' ⟨rfl, ⟨nd, rfl⟩⟩))
         go_meet
         case rel => exact ⟨_, ((t198 != t191)), (by first | rfl | (simp; done) | (simp [*]; done)), H', ⟨by have := HJ7.out; first | omega | exact Nat.le_refl _⟩, ⟨xr HO_4.out⟩, ⟨xr HO_7.out⟩, ⟨xs HB.out⟩⟩
        ·replace c33 := Bool.eq_false_iff.mpr c33
         subst c33
         have H1 : (laws_FnExactFloodOrder.j1 kj7 l0 t190 t191 t197 true) = some true := by first | (rw [if_neg (show ¬ (false = true) by decide)] at H; exact H) | rfl
         clear H
         have H := H1
         clear H1
         have H' := Aside0.mk H
         clear H
         obtain ⟨Ao36, co36, eo36⟩ := Kd.R_slice HO_7.out
         subst eo36
         obtain ⟨Ao37, co37, eo37⟩ := Kd.R_slice HO_4.out
         subst eo37
         go_wp2_with (first | (go_at_call 41; (with_reducible refine (laws_eqIntS.calls kj7 _ _ t197 _ _ t190 false _ ?side1 ?side2 ?side3 ?side4 A32.out).mono ?_); (case side1 => exact xd ((Kd.R_reads' HO_7.out).2.2)); (case side2 => exact (Kd.R_reads' HO_7.out).2.1); (case side3 => exact xd ((Kd.R_reads' HO_4.out).2.2)); (case side4 => exact (Kd.R_reads' HO_4.out).2.1); rintro e w' ⟨rfl, ⟨nd, rfl⟩⟩))
         go_meet
         case rel => exact ⟨_, (true), (by first | rfl | (simp; done) | (simp [*]; done)), H', ⟨by have := HJ7.out; first | omega | exact Nat.le_refl _⟩, ⟨xr HO_4.out⟩, ⟨xr HO_7.out⟩, ⟨xs HB.out⟩⟩
      case rest =>
       clear HC26
       try clear c1
       try clear c2
       try clear p2
       try clear c3
       try clear c3b0
       try clear c4
       try clear c9
       try clear c13
       try clear c15
       try clear c16
       try clear c18
       try clear c19
       try clear c21
       try clear c24
       try clear c31
       try clear c31b0
       try clear c33
       try clear p2
       obtain ⟨kq, x61_25, rfl, HA, HJ25, HO_4, HO_7, HB⟩ := hcut
       cases kq with
       | zero => exact absurd HA.out (by simp [laws_FnExactFloodOrder.j1])
       | succ kj25 =>
        have H := HA.out
        clear HA
        simp only [laws_FnExactFloodOrder.j1] at H
        by_cases c38 : x61_25 = true
        ·subst c38
         have H1 : (some false) = some true := by first | (rw [if_pos rfl] at H; exact H) | rfl
         clear H
         have H := H1
         clear H1
         exact absurd H (by simp)
        ·replace c38 := Bool.eq_false_iff.mpr c38
         subst c38
         have H1 : ((laws_markIntS.f kj25 t197 1).bind fun bt209 => ((laws_heldIntS.f kj25 bt209.2 1).bind fun t211 => (if t211 < 0 then (some false) else (if t211 = bt209.1 then ((laws_toTankS.f kj25 l0).bind fun t212 => ((impl_FloodOrder.f t212).bind fun bt215 => ((laws_eqIntS.f kj25 bt215.1 t190).bind fun t219 => (if t219 = true then (laws_FnExactFloodOrder.j2 kj25 bt209.2 bt209.1 (bt215.2 != t191)) else (laws_FnExactFloodOrder.j2 kj25 bt209.2 bt209.1 true))))) else (some false))))) = some true := by first | (rw [if_neg (show ¬ (false = true) by decide)] at H; exact H) | rfl
         clear H
         have H := H1
         clear H1
         replace H := Option.bind_eq_some_iff.mp H
         obtain ⟨⟨t209, t210⟩, A390, H⟩ := H
         replace H : ((laws_heldIntS.f kj25 t210 1).bind fun t211 => (if t211 < 0 then (some false) else (if t211 = t209 then ((laws_toTankS.f kj25 l0).bind fun t212 => ((impl_FloodOrder.f t212).bind fun bt215 => ((laws_eqIntS.f kj25 bt215.1 t190).bind fun t219 => (if t219 = true then (laws_FnExactFloodOrder.j2 kj25 t210 t209 (bt215.2 != t191)) else (laws_FnExactFloodOrder.j2 kj25 t210 t209 true))))) else (some false)))) = some true := H
         have A39 := Aside0.mk A390
         clear A390
         replace H := Option.bind_eq_some_iff.mp H
         obtain ⟨t211, A400, H⟩ := H
         replace H : (if t211 < 0 then (some false) else (if t211 = t209 then ((laws_toTankS.f kj25 l0).bind fun t212 => ((impl_FloodOrder.f t212).bind fun bt215 => ((laws_eqIntS.f kj25 bt215.1 t190).bind fun t219 => (if t219 = true then (laws_FnExactFloodOrder.j2 kj25 t210 t209 (bt215.2 != t191)) else (laws_FnExactFloodOrder.j2 kj25 t210 t209 true))))) else (some false))) = some true := H
         have A40 := Aside0.mk A400
         clear A400
         by_cases c41 : t211 < 0
         ·rw [if_pos c41] at H
          have c41b0 : decide (t211 < 0) = true := decide_eq_true c41
          clear c41
          exact absurd H (by simp)
         ·rw [if_neg c41] at H
          have c41b0 : decide (t211 < 0) = false := decide_eq_false c41
          clear c41
          by_cases c42 : t211 = t209
          ·rw [if_pos c42] at H
           have c42b0 : (t211 == t209) = true := beq_iff_eq.mpr c42
           have c42b1 : (t211 != t209) = false := bne_eq_false_iff_eq.mpr c42
           clear c42
           replace H := Option.bind_eq_some_iff.mp H
           obtain ⟨t212, A430, H⟩ := H
           replace H : ((impl_FloodOrder.f t212).bind fun bt215 => ((laws_eqIntS.f kj25 bt215.1 t190).bind fun t219 => (if t219 = true then (laws_FnExactFloodOrder.j2 kj25 t210 t209 (bt215.2 != t191)) else (laws_FnExactFloodOrder.j2 kj25 t210 t209 true)))) = some true := H
           have A43 := Aside0.mk A430
           clear A430
           replace H := Option.bind_eq_some_iff.mp H
           obtain ⟨⟨t215, t216⟩, A440, H⟩ := H
           replace H : ((laws_eqIntS.f kj25 t215 t190).bind fun t219 => (if t219 = true then (laws_FnExactFloodOrder.j2 kj25 t210 t209 (t216 != t191)) else (laws_FnExactFloodOrder.j2 kj25 t210 t209 true))) = some true := H
           have A44 := Aside0.mk A440
           clear A440
           have HC45 := Aside0.mk H
           clear H
           obtain ⟨Ao46, co46, eo46⟩ := Kd.R_slice HO_7.out
           subst eo46
           go_upto_region 25 with (first | ((with_reducible refine gate_callee (f := 42) rfl ?_); refine goesL_ (some 64) rfl rfl Try.func42 (by kernel_rfl) rfl #[.slice Ao46 t197.length co46, .int .i64 1] rfl (by (try simp only [List.map_toArray, List.map_cons, List.map_nil]); first | done | rfl | (simp only [List.length_drop, List.length_take]; rfl)) ?_; (with_reducible refine (laws_markIntS.calls kj25 (fun k_ => some k_ = (.slice Ao46 t197.length co46 : Value).ownBlock) (.slice Ao46 t197.length co46) t197 1 t209 t210 w _ ?side1 ?side2 A39.out).mono ?_); (case side1 => repeat (first | (with_reducible first | exact HB.out | apply below_alloc | apply pw_below_drewN | apply below_drew1) | exact HB.out)); (case side2 => exact Kd.R_tight rfl HO_7.out); rintro e w47 ⟨rfl, hy0, hb, hkp⟩; refine ⟨_, rfl, ?_⟩; replace HO_4 := Aside0.mk (Kd.R_mono (ok' := fun k_ => nS k_ Ao46 t197.length co46) (Kd.R_keptB (HO_4.out) hkp (fun k_ hk_ hs_ => (hk_) hs_)) (fun k_ hk_ => hk_.1)); replace HO_7 := Aside0.mk (Kd.R_reok rfl hy0 (fun k_ e_ => HO_7.out.1 k_ e_)); replace HB := Aside0.mk (hb); (try clear hb); (try clear hkp); (try clear hy0)) | ((with_reducible refine gate_callee (f := 43) rfl ?_); refine goesL_ (some 67) rfl rfl Try.func43 (by kernel_rfl) rfl #[.slice Ao46 t210.length co46, .int .i64 1] rfl (by (try simp only [List.map_toArray, List.map_cons, List.map_nil]); first | done | (rw [show t210.length = t197.length from (Kd.R_reads' HO_7.out).1.symm] <;> rfl) | rfl | (simp only [List.length_drop, List.length_take]; rfl)) ?_; (with_reducible refine (laws_heldIntS.calls kj25 _ _ t210 1 t211 _ ?side1 ?side2 A40.out).mono ?_); (case side1 => exact xd ((Kd.R_reads' HO_7.out).2.2)); (case side2 => rw [show t210.length = t197.length from (Kd.R_reads' HO_7.out).1.symm]; exact (Kd.R_reads' HO_7.out).2.1); rintro e w' ⟨rfl, ⟨nd, rfl⟩⟩; refine ⟨_, rfl, ?_⟩) | ((with_reducible refine gate_callee (f := 15) rfl ?_); refine goesL_ (some 75) rfl rfl Try.func15 (by kernel_rfl) rfl #[.slice A0 l0.length c0] rfl (by (try simp only [List.map_toArray, List.map_cons, List.map_nil]); first | done | rfl | (simp only [List.length_drop, List.length_take]; rfl)) ?_; (with_reducible refine (laws_toTankS.calls kj25 _ _ l0 t212 _ ?side1 ?side2 A43.out).mono ?_); (case side1 => repeat (first | exact (Kd.C_below HR0.out (xs HB.out)) | (with_reducible refine Kd.C_alloc ?_ _) | (with_reducible refine Kd.C_drewN ?_ _) | (with_reducible refine Kd.C_drew ?_))); (case side2 => exact HC0.out); rintro e w48 ⟨v213, rfl, ho0, hb⟩; refine ⟨_, rfl, ?_⟩; replace HO_4 := xq HO_4 hb; replace HO_7 := xq HO_7 hb; have HO214 := Aside0.mk (Kd.R_lower ho0 (below_size (xs HB.out))); replace HB := xp HB hb; (try clear hb); (try clear hb2); (try clear hk); (try clear hi); (try clear ho0); obtain ⟨Ao49, co49, eo49⟩ := Kd.R_slice HO214.out; subst eo49) | ((with_reducible refine gate_callee (f := 40) rfl ?_); refine goesL_ (some 76) rfl rfl Try.func40 (by kernel_rfl) rfl #[.slice Ao49 t212.length co49] rfl (by (try simp only [List.map_toArray, List.map_cons, List.map_nil]); first | done | rfl | (simp only [List.length_drop, List.length_take]; rfl)) ?_; (with_reducible refine (impl_FloodOrder.calls _ _ t212 t215 t216 _ ?side1 ?side2 A44.out).mono ?_); (case side1 => exact xd ((Kd.R_reads' HO214.out).2.2)); (case side2 => exact (Kd.R_reads' HO214.out).2.1); rintro e w50 ⟨v217, rfl, ho0, hb⟩; refine ⟨_, rfl, ?_⟩; replace HO214 := xq HO214 hb; have HO218 := Aside0.mk (Kd.R_lower (Kd.R_new' (Kd.R_new' ho0 (Kd.R_lt (xr HO_4.out))) (Kd.R_lt (xr HO_7.out))) (below_size (xs HB.out))); replace HO_4 := Aside0.mk (Kd.R_elder' (xr HO_4.out) (Kd.R_base ho0) hb); replace HO_7 := Aside0.mk (Kd.R_elder' (xr HO_7.out) (Kd.R_base ho0) hb); replace HB := xp HB hb; (try clear hb); (try clear hb2); (try clear hk); (try clear hi); (try clear ho0)))
           (try simp only [Act.put, List.setIfInBounds_toArray, List.set_cons_zero, List.set_cons_succ])
           go_cut [87] (fun v87 wc => ∃ (kq : Nat) (x87_44 : Bool), v87 = .bool x87_44 ∧ Aside0 (laws_FnExactFloodOrder.j2 kq t210 t209 x87_44 = some true) ∧ Aside0 (kq ≤ kj25) ∧ Aside0 (Kd.R (Kd.int .i64) 3 wc w.heap.size (fun _ => True) (.slice Ao46 t197.length co46) t210) ∧ Aside0 (Below w.heap.size w wc))
           case first =>
            have H := HC45.out
            clear HC45
            replace H := Option.bind_eq_some_iff.mp H
            obtain ⟨t219, A510, H⟩ := H
            replace H : (if t219 = true then (laws_FnExactFloodOrder.j2 kj25 t210 t209 (t216 != t191)) else (laws_FnExactFloodOrder.j2 kj25 t210 t209 true)) = some true := H
            have A51 := Aside0.mk A510
            clear A510
            by_cases c52 : t219 = true
            ·subst c52
             have H1 : (laws_FnExactFloodOrder.j2 kj25 t210 t209 (t216 != t191)) = some true := by first | (rw [if_pos rfl] at H; exact H) | rfl
             clear H
             have H := H1
             clear H1
             have H' := Aside0.mk H
             clear H
             obtain ⟨Ao53, co53, eo53⟩ := Kd.R_slice HO218.out
             subst eo53
             obtain ⟨Ao54, co54, eo54⟩ := Kd.R_slice HO_4.out
             subst eo54
             go_wp2_with (first | ((with_reducible refine gate_callee (f := 41) rfl ?_); refine goesL_ (some 81) rfl rfl Try.func41 (by kernel_rfl) rfl #[.slice Ao53 t215.length co53, .slice Ao54 t190.length co54] rfl (by (try simp only [List.map_toArray, List.map_cons, List.map_nil]); first | done | rfl | (simp only [List.length_drop, List.length_take]; rfl)) ?_; (with_reducible refine (laws_eqIntS.calls kj25 _ _ t215 _ _ t190 true _ ?side1 ?side2 ?side3 ?side4 A51.out).mono ?_); (case side1 => exact xd ((Kd.R_reads' HO218.out).2.2)); (case side2 => exact (Kd.R_reads' HO218.out).2.1); (case side3 => exact xd ((Kd.R_reads' HO_4.out).2.2)); (case side4 => exact (Kd.R_reads' HO_4.out).2.1); rintro e w' ⟨rfl, ⟨nd, rfl⟩⟩; refine ⟨_, rfl, ?_⟩))
             go_meet
             case rel => exact ⟨_, ((t216 != t191)), (by first | rfl | (simp; done) | (simp [*]; done)), H', ⟨by have := HJ7.out; have := HJ25.out; first | omega | exact Nat.le_refl _⟩, ⟨xm HO_7 (fun _ hk => trivial)⟩, ⟨xs HB.out⟩⟩
            ·replace c52 := Bool.eq_false_iff.mpr c52
             subst c52
             have H1 : (laws_FnExactFloodOrder.j2 kj25 t210 t209 true) = some true := by first | (rw [if_neg (show ¬ (false = true) by decide)] at H; exact H) | rfl
             clear H
             have H := H1
             clear H1
             have H' := Aside0.mk H
             clear H
             obtain ⟨Ao55, co55, eo55⟩ := Kd.R_slice HO218.out
             subst eo55
             obtain ⟨Ao56, co56, eo56⟩ := Kd.R_slice HO_4.out
             subst eo56
             go_wp2_with (first | ((with_reducible refine gate_callee (f := 41) rfl ?_); refine goesL_ (some 81) rfl rfl Try.func41 (by kernel_rfl) rfl #[.slice Ao55 t215.length co55, .slice Ao56 t190.length co56] rfl (by (try simp only [List.map_toArray, List.map_cons, List.map_nil]); first | done | rfl | (simp only [List.length_drop, List.length_take]; rfl)) ?_; (with_reducible refine (laws_eqIntS.calls kj25 _ _ t215 _ _ t190 false _ ?side1 ?side2 ?side3 ?side4 A51.out).mono ?_); (case side1 => exact xd ((Kd.R_reads' HO218.out).2.2)); (case side2 => exact (Kd.R_reads' HO218.out).2.1); (case side3 => exact xd ((Kd.R_reads' HO_4.out).2.2)); (case side4 => exact (Kd.R_reads' HO_4.out).2.1); rintro e w' ⟨rfl, ⟨nd, rfl⟩⟩; refine ⟨_, rfl, ?_⟩))
             go_meet
             case rel => exact ⟨_, (true), (by first | rfl | (simp; done) | (simp [*]; done)), H', ⟨by have := HJ7.out; have := HJ25.out; first | omega | exact Nat.le_refl _⟩, ⟨xm HO_7 (fun _ hk => trivial)⟩, ⟨xs HB.out⟩⟩
           case rest =>
            clear HC45
            try clear c1
            try clear c2
            try clear p2
            try clear c3
            try clear c3b0
            try clear c4
            try clear c5
            try clear c9
            try clear c13
            try clear c15
            try clear c16
            try clear c18
            try clear c19
            try clear c21
            try clear c24
            try clear c31
            try clear c31b0
            try clear c33
            try clear c38
            try clear c39
            try clear c40
            try clear c41
            try clear c41b0
            try clear c42
            try clear c42b0
            try clear c42b1
            try clear c43
            try clear c52
            try clear p2
            obtain ⟨kq, x87_44, rfl, HA, HJ44, HO_7, HB⟩ := hcut
            have hl7_44 := (Kd.R_reads' HO_7.out).1
            rw [hl7_44] at HO_7
            (try simp only [hl7_44])
            cases kq with
            | zero => exact absurd HA.out (by simp [laws_FnExactFloodOrder.j2])
            | succ kj44 =>
             have H := HA.out
             clear HA
             simp only [laws_FnExactFloodOrder.j2] at H
             by_cases c57 : x87_44 = true
             ·subst c57
              have H1 : (some false) = some true := by first | (rw [if_pos rfl] at H; exact H) | rfl
              clear H
              have H := H1
              clear H1
              exact absurd H (by simp)
             ·replace c57 := Bool.eq_false_iff.mpr c57
              subst c57
              have H1 : ((laws_heldIntS.f kj44 t210 1).bind fun t220 => (if t220 < 0 then (some false) else (if t220 = t209 then (some true) else (some false)))) = some true := by first | (rw [if_neg (show ¬ (false = true) by decide)] at H; exact H) | rfl
              clear H
              have H := H1
              clear H1
              replace H := Option.bind_eq_some_iff.mp H
              obtain ⟨t220, A580, H⟩ := H
              replace H : (if t220 < 0 then (some false) else (if t220 = t209 then (some true) else (some false))) = some true := H
              have A58 := Aside0.mk A580
              clear A580
              by_cases c59 : t220 < 0
              ·rw [if_pos c59] at H
               have c59b0 : decide (t220 < 0) = true := decide_eq_true c59
               clear c59
               exact absurd H (by simp)
              ·rw [if_neg c59] at H
               have c59b0 : decide (t220 < 0) = false := decide_eq_false c59
               clear c59
               by_cases c60 : t220 = t209
               ·rw [if_pos c60] at H
                have c60b0 : (t220 == t209) = true := beq_iff_eq.mpr c60
                have c60b1 : (t220 != t209) = false := bne_eq_false_iff_eq.mpr c60
                clear c60
                clear H
                go_wp2_with (first | ((with_reducible refine gate_callee (f := 43) rfl ?_); refine goesL_ (some 90) rfl rfl Try.func43 (by kernel_rfl) rfl #[.slice Ao46 t210.length co46, .int .i64 1] rfl (by (try simp only [List.map_toArray, List.map_cons, List.map_nil]); first | done | rfl | (simp only [List.length_drop, List.length_take]; rfl)) ?_; (with_reducible refine (laws_heldIntS.calls kj44 _ _ t210 1 t220 _ ?side1 ?side2 A58.out).mono ?_); (case side1 => exact xd ((Kd.R_reads' HO_7.out).2.2)); (case side2 => exact (Kd.R_reads' HO_7.out).2.1); rintro e w' ⟨rfl, ⟨nd, rfl⟩⟩; refine ⟨_, rfl, ?_⟩))
                go_ret
                exact ⟨by first | rfl | (simp [errW_none, errW_some] <;> rfl) | (simp [*, errW_none, errW_some] <;> rfl), by repeat (first | (with_reducible first | exact HB.out | apply below_alloc | apply pw_below_drewN | apply below_drew1) | exact HB.out)⟩
               ·rw [if_neg c60] at H
                have c60b0 : (t220 == t209) = false := beq_eq_false_iff_ne.mpr c60
                have c60b1 : (t220 != t209) = true := bne_iff_ne.mpr c60
                exact absurd H (by simp)
          ·rw [if_neg c42] at H
           have c42b0 : (t211 == t209) = false := beq_eq_false_iff_ne.mpr c42
           have c42b1 : (t211 != t209) = true := bne_iff_ne.mpr c42
           exact absurd H (by simp)
     ·replace c24 := Bool.eq_false_iff.mpr c24
      subst c24
      have H1 : (some false) = some true := by first | (rw [if_neg (show ¬ (false = true) by decide)] at H; exact H) | rfl
      clear H
      have H := H1
      clear H1
      exact absurd H (by simp)

end Go.Proofs.Ytedkbaadbnpkoaa.PFnExactFloodOrder

/- Lean functions of the Go functions that the law FnExactMakeMoves reaches, and the proofs that the calls come to what they say (made by program). -/
import Derived.Test.YtobkbpoamicjgaaAb
import Derived.Test.YtobkbpoamicjgaaPFnExactMakeMovesx0
import Derived.Test.YtobkbpoamicjgaaPFnExactMakeMovesx1
import Derived.Test.YtobkbpoamicjgaaPFnExactMakeMovesx2
import Derived.Test.YtobkbpoamicjgaaPFnExactMakeMovesx5
import Derived.Test.YtobkbpoamicjgaaPFnExactMakeMovesx7
import Derived.Test.YtobkbpoamicjgaaPFnExactMakeMovesx8
namespace Go.Proofs.Ytobkbpoamicjgaa.PFnExactMakeMoves
open Go.RowKit Go.Proofs.YtobkbpoamicjgaaW.PrintWords Go.Proofs.YtobkbpoamicjgaaW.PrintLast Go.Proofs.YtobkbpoamicjgaaW.PrintMore Go.Proofs.Ytobkbpoamicjgaa.Ab
attribute [local go_sem] max2_int min2_int max_two min_two max_three min_three max_four min_four   -- for this text's walks alone
set_option linter.unusedVariables false
set_option linter.unusedSimpArgs false

/-! ### laws_FnExactMakeMoves: function 8 -/
mutual
def laws_FnExactMakeMoves.j0 : Nat → List (S39) → Bool → List (S41) → Bool → Bool → List Int → List Int → List Int → List Int → List Int → List Int → List Int → List Int → Option (Bool)
  | 0, _, _, _, _, _, _, _, _, _, _, _, _, _ => none
  | k + 1, x1, x7, x9, x11, x53, x261000, x261001, x280000, x280001, x287000, x287001, x298000, x298001 => if x53 = true then (some false) else ((laws_toVessels.f k x261000 x261001).bind fun bt299 => ((laws_eqVessels.f k x287000 x287001 bt299.1 bt299.2).bind fun t305 => (if t305 = true then ((laws_toMoveS.f k x1).bind fun t306 => ((laws_eqMoveS.f k x9 t306).bind fun t309 => (if t309 = true then ((laws_markVessels.f k x287000 x287001 1).bind fun bt310 => ((laws_markMoveS.f k x9 bt310.1).bind fun bt313 => (if bt313.1 < 0 then (laws_FnExactMakeMoves.j1 k x1 x7 true x261000 x261001 x280000 x280001 x298000 x298001) else ((laws_eqVessels.f k x298000 x298001 x280000 x280001).bind fun t315 => (if t315 = true then (laws_FnExactMakeMoves.j1 k x1 x7 (x11 != x7) x261000 x261001 x280000 x280001 x298000 x298001) else (laws_FnExactMakeMoves.j1 k x1 x7 true x261000 x261001 x280000 x280001 x298000 x298001)))))) else (some false)))) else (some false))))
def laws_FnExactMakeMoves.j1 : Nat → List (S39) → Bool → Bool → List Int → List Int → List Int → List Int → List Int → List Int → Option (Bool)
  | 0, _, _, _, _, _, _, _, _, _ => none
  | k + 1, x1, x7, x82, x261000, x261001, x280000, x280001, x298000, x298001 => if x82 = true then (some false) else ((laws_markVessels.f k x298000 x298001 1).bind fun bt316 => ((laws_heldVessels.f k bt316.2.1 bt316.2.2 1).bind fun t319 => (if t319 < 0 then (some false) else (if t319 = bt316.1 then ((laws_toVessels.f k x261000 x261001).bind fun bt320 => ((laws_toMoveS.f k x1).bind fun t326 => ((impl_MakeMoves.f k bt320.1 bt320.2 t326).bind fun bt329 => ((laws_eqVessels.f k bt329.1 bt329.2.1 x280000 x280001).bind fun t337 => (if t337 = true then (laws_FnExactMakeMoves.j2 k bt316.1 (bt329.2.2 != x7) bt316.2.1 bt316.2.2) else (laws_FnExactMakeMoves.j2 k bt316.1 true bt316.2.1 bt316.2.2)))))) else (some false)))))
def laws_FnExactMakeMoves.j2 : Nat → Int → Bool → List Int → List Int → Option (Bool)
  | 0, _, _, _, _ => none
  | k + 1, x13, x110, x298000, x298001 => if x110 = true then (some false) else ((laws_heldVessels.f k x298000 x298001 1).bind fun t338 => (if t338 < 0 then (some false) else (if t338 = x13 then (some true) else (some false))))
end
def laws_FnExactMakeMoves.f (k : Nat) (l0_0 : List Int) (l0_1 : List Int) (l1 : List (S39)) : Option (Bool) := (laws_szVessels.f l0_0 l0_1 1048576).bind fun t261 => (if t261 < 0 then (some true) else ((laws_szMoveS.f l1 t261).bind fun t262 => (if t262 < 0 then (some true) else ((laws_toVessels.f k l0_0 l0_1).bind fun bt263 => ((laws_toMoveS.f k l1).bind fun t269 => ((spec_MakeMoves.f k bt263.1 bt263.2 t269).bind fun bt272 => ((laws_toVessels.f k l0_0 l0_1).bind fun bt280 => ((laws_toMoveS.f k l1).bind fun t287 => ((impl_MakeMoves.f k bt280.1 bt280.2 t287).bind fun bt290 => ((laws_eqVessels.f k bt290.1 bt290.2.1 bt272.1 bt272.2.1).bind fun t298 => (if t298 = true then (laws_FnExactMakeMoves.j0 k l1 bt272.2.2 t287 bt290.2.2 (bt290.2.2 != bt272.2.2) l0_0 l0_1 bt272.1 bt272.2.1 bt280.1 bt280.2 bt290.1 bt290.2.1) else (laws_FnExactMakeMoves.j0 k l1 bt272.2.2 t287 bt290.2.2 true l0_0 l0_1 bt272.1 bt272.2.1 bt280.1 bt280.2 bt290.1 bt290.2.1))))))))))))
theorem laws_FnExactMakeMoves.mono_l : ∀ k, (∀ y0 y1 y2 y3 y4 y5 y6 y7 y8 y9 y10 y11 y12, LeO (laws_FnExactMakeMoves.j0 k y0 y1 y2 y3 y4 y5 y6 y7 y8 y9 y10 y11 y12) (laws_FnExactMakeMoves.j0 (k + 1) y0 y1 y2 y3 y4 y5 y6 y7 y8 y9 y10 y11 y12)) ∧ (∀ y0 y1 y2 y3 y4 y5 y6 y7 y8, LeO (laws_FnExactMakeMoves.j1 k y0 y1 y2 y3 y4 y5 y6 y7 y8) (laws_FnExactMakeMoves.j1 (k + 1) y0 y1 y2 y3 y4 y5 y6 y7 y8)) ∧ (∀ y0 y1 y2 y3, LeO (laws_FnExactMakeMoves.j2 k y0 y1 y2 y3) (laws_FnExactMakeMoves.j2 (k + 1) y0 y1 y2 y3))
 | 0 => ⟨fun _ _ _ _ _ _ _ _ _ _ _ _ _ r h => by simp [laws_FnExactMakeMoves.j0] at h, fun _ _ _ _ _ _ _ _ _ r h => by simp [laws_FnExactMakeMoves.j1] at h, fun _ _ _ _ r h => by simp [laws_FnExactMakeMoves.j2] at h⟩
 | k + 1 => by
  obtain ⟨ih0, ih1, ih2⟩ := laws_FnExactMakeMoves.mono_l k
  refine ⟨?_, ?_, ?_⟩
  ·intro y0 y1 y2 y3 y4 y5 y6 y7 y8 y9 y10 y11 y12
   unfold laws_FnExactMakeMoves.j0
   repeat' first
   | (with_reducible exact ih0 _ _ _ _ _ _ _ _ _ _ _ _ _)
   | (with_reducible exact ih1 _ _ _ _ _ _ _ _ _)
   | (with_reducible exact ih2 _ _ _ _)
   | (with_reducible exact impl_MakeMoves.mono _ _ _ _)
   | (with_reducible exact laws_eqMoveS.mono _ _ _)
   | (with_reducible exact laws_eqVessels.mono _ _ _ _ _)
   | (with_reducible exact laws_heldVessels.mono _ _ _ _)
   | (with_reducible exact laws_markMoveS.mono _ _ _)
   | (with_reducible exact laws_markVessels.mono _ _ _ _)
   | (with_reducible exact laws_toMoveS.mono _ _)
   | (with_reducible exact laws_toVessels.mono _ _ _)
   | (with_reducible exact spec_MakeMoves.mono _ _ _ _)
   | (with_reducible exact LeO.refl _)
   | (with_reducible exact LeO.none _)
   | (with_reducible refine LeO.ite ?_ ?_)
   | (with_reducible refine LeO.bind ?_ (fun _ => ?_))
   | exact ih0 _ _ _ _ _ _ _ _ _ _ _ _ _
   | exact ih1 _ _ _ _ _ _ _ _ _
   | exact ih2 _ _ _ _
   | exact impl_MakeMoves.mono _ _ _ _
   | exact laws_eqMoveS.mono _ _ _
   | exact laws_eqVessels.mono _ _ _ _ _
   | exact laws_heldVessels.mono _ _ _ _
   | exact laws_markMoveS.mono _ _ _
   | exact laws_markVessels.mono _ _ _ _
   | exact laws_toMoveS.mono _ _
   | exact laws_toVessels.mono _ _ _
   | exact spec_MakeMoves.mono _ _ _ _
   | exact LeO.none _
   | refine LeO.ite ?_ ?_
   | refine LeO.bind ?_ (fun _ => ?_)
  ·intro y0 y1 y2 y3 y4 y5 y6 y7 y8
   unfold laws_FnExactMakeMoves.j1
   repeat' first
   | (with_reducible exact ih0 _ _ _ _ _ _ _ _ _ _ _ _ _)
   | (with_reducible exact ih1 _ _ _ _ _ _ _ _ _)
   | (with_reducible exact ih2 _ _ _ _)
   | (with_reducible exact impl_MakeMoves.mono _ _ _ _)
   | (with_reducible exact laws_eqMoveS.mono _ _ _)
   | (with_reducible exact laws_eqVessels.mono _ _ _ _ _)
   | (with_reducible exact laws_heldVessels.mono _ _ _ _)
   | (with_reducible exact laws_markMoveS.mono _ _ _)
   | (with_reducible exact laws_markVessels.mono _ _ _ _)
   | (with_reducible exact laws_toMoveS.mono _ _)
   | (with_reducible exact laws_toVessels.mono _ _ _)
   | (with_reducible exact spec_MakeMoves.mono _ _ _ _)
   | (with_reducible exact LeO.refl _)
   | (with_reducible exact LeO.none _)
   | (with_reducible refine LeO.ite ?_ ?_)
   | (with_reducible refine LeO.bind ?_ (fun _ => ?_))
   | exact ih0 _ _ _ _ _ _ _ _ _ _ _ _ _
   | exact ih1 _ _ _ _ _ _ _ _ _
   | exact ih2 _ _ _ _
   | exact impl_MakeMoves.mono _ _ _ _
   | exact laws_eqMoveS.mono _ _ _
   | exact laws_eqVessels.mono _ _ _ _ _
   | exact laws_heldVessels.mono _ _ _ _
   | exact laws_markMoveS.mono _ _ _
   | exact laws_markVessels.mono _ _ _ _
   | exact laws_toMoveS.mono _ _
   | exact laws_toVessels.mono _ _ _
   | exact spec_MakeMoves.mono _ _ _ _
   | exact LeO.none _
   | refine LeO.ite ?_ ?_
   | refine LeO.bind ?_ (fun _ => ?_)
  ·intro y0 y1 y2 y3
   unfold laws_FnExactMakeMoves.j2
   repeat' first
   | (with_reducible exact ih0 _ _ _ _ _ _ _ _ _ _ _ _ _)
   | (with_reducible exact ih1 _ _ _ _ _ _ _ _ _)
   | (with_reducible exact ih2 _ _ _ _)
   | (with_reducible exact impl_MakeMoves.mono _ _ _ _)
   | (with_reducible exact laws_eqMoveS.mono _ _ _)
   | (with_reducible exact laws_eqVessels.mono _ _ _ _ _)
   | (with_reducible exact laws_heldVessels.mono _ _ _ _)
   | (with_reducible exact laws_markMoveS.mono _ _ _)
   | (with_reducible exact laws_markVessels.mono _ _ _ _)
   | (with_reducible exact laws_toMoveS.mono _ _)
   | (with_reducible exact laws_toVessels.mono _ _ _)
   | (with_reducible exact spec_MakeMoves.mono _ _ _ _)
   | (with_reducible exact LeO.refl _)
   | (with_reducible exact LeO.none _)
   | (with_reducible refine LeO.ite ?_ ?_)
   | (with_reducible refine LeO.bind ?_ (fun _ => ?_))
   | exact ih0 _ _ _ _ _ _ _ _ _ _ _ _ _
   | exact ih1 _ _ _ _ _ _ _ _ _
   | exact ih2 _ _ _ _
   | exact impl_MakeMoves.mono _ _ _ _
   | exact laws_eqMoveS.mono _ _ _
   | exact laws_eqVessels.mono _ _ _ _ _
   | exact laws_heldVessels.mono _ _ _ _
   | exact laws_markMoveS.mono _ _ _
   | exact laws_markVessels.mono _ _ _ _
   | exact laws_toMoveS.mono _ _
   | exact laws_toVessels.mono _ _ _
   | exact spec_MakeMoves.mono _ _ _ _
   | exact LeO.none _
   | refine LeO.ite ?_ ?_
   | refine LeO.bind ?_ (fun _ => ?_)
theorem laws_FnExactMakeMoves.mono : ∀ a0 a1 a2 k, LeO (laws_FnExactMakeMoves.f k a0 a1 a2) (laws_FnExactMakeMoves.f (k + 1) a0 a1 a2) := by
 intro a0 a1 a2 k
 obtain ⟨ih0, ih1, ih2⟩ := laws_FnExactMakeMoves.mono_l k
 unfold laws_FnExactMakeMoves.f
 repeat' first
   | (with_reducible exact ih0 _ _ _ _ _ _ _ _ _ _ _ _ _)
   | (with_reducible exact ih1 _ _ _ _ _ _ _ _ _)
   | (with_reducible exact ih2 _ _ _ _)
   | (with_reducible exact impl_MakeMoves.mono _ _ _ _)
   | (with_reducible exact laws_eqMoveS.mono _ _ _)
   | (with_reducible exact laws_eqVessels.mono _ _ _ _ _)
   | (with_reducible exact laws_heldVessels.mono _ _ _ _)
   | (with_reducible exact laws_markMoveS.mono _ _ _)
   | (with_reducible exact laws_markVessels.mono _ _ _ _)
   | (with_reducible exact laws_toMoveS.mono _ _)
   | (with_reducible exact laws_toVessels.mono _ _ _)
   | (with_reducible exact spec_MakeMoves.mono _ _ _ _)
   | (with_reducible exact LeO.refl _)
   | (with_reducible exact LeO.none _)
   | (with_reducible refine LeO.ite ?_ ?_)
   | (with_reducible refine LeO.bind ?_ (fun _ => ?_))
   | exact ih0 _ _ _ _ _ _ _ _ _ _ _ _ _
   | exact ih1 _ _ _ _ _ _ _ _ _
   | exact ih2 _ _ _ _
   | exact impl_MakeMoves.mono _ _ _ _
   | exact laws_eqMoveS.mono _ _ _
   | exact laws_eqVessels.mono _ _ _ _ _
   | exact laws_heldVessels.mono _ _ _ _
   | exact laws_markMoveS.mono _ _ _
   | exact laws_markVessels.mono _ _ _ _
   | exact laws_toMoveS.mono _ _
   | exact laws_toVessels.mono _ _ _
   | exact spec_MakeMoves.mono _ _ _ _
   | exact LeO.none _
   | refine LeO.ite ?_ ?_
   | refine LeO.bind ?_ (fun _ => ?_)
set_option maxHeartbeats 8000000 in
set_option maxRecDepth 100000 in
theorem laws_FnExactMakeMoves.calls (k : Nat) (A0_0 : Option Addr) (c0_0 : Nat) (l0_0 : List Int) (A0_1 : Option Addr) (c0_1 : Nat) (l0_1 : List Int) (A1 : Option Addr) (c1 : Nat) (l1 : List (S39)) (w : World) (hr0_0 : Kd.C (Kd.int .i64) w A0_0 l0_0.length l0_0) (hc0_0 : l0_0.length ≤ c0_0) (hr0_1 : Kd.C (Kd.int .i64) w A0_1 l0_1.length l0_1) (hc0_1 : l0_1.length ≤ c0_1) (hr1 : Kd.C k39 w A1 l1.length l1) (hc1 : l1.length ≤ c1) (h : laws_FnExactMakeMoves.f k l0_0 l0_1 l1 = some true) :
  Calls Try.prog 8 #[.agg #[.slice A0_0 l0_0.length c0_0, .slice A0_1 l0_1.length c0_1], .slice A1 l1.length c1] w fun e w' => e = .returned (.bool true) ∧ Below w.heap.size w w' := by
 have hu24 := Try.underlying24
 have hu26 := Try.underlying26
 have HR0_0 := Aside0.mk hr0_0
 have HC0_0 := Aside0.mk hc0_0
 clear hr0_0 hc0_0
 have HR0_1 := Aside0.mk hr0_1
 have HC0_1 := Aside0.mk hc0_1
 clear hr0_1 hc0_1
 have HR1 := Aside0.mk hr1
 have HC1 := Aside0.mk hc1
 clear hr1 hc1
 have HB := Aside0.mk (Below.refl w.heap.size w)
 have H : ((laws_szVessels.f l0_0 l0_1 1048576).bind fun t261 => (if t261 < 0 then (some true) else ((laws_szMoveS.f l1 t261).bind fun t262 => (if t262 < 0 then (some true) else ((laws_toVessels.f k l0_0 l0_1).bind fun bt263 => ((laws_toMoveS.f k l1).bind fun t269 => ((spec_MakeMoves.f k bt263.1 bt263.2 t269).bind fun bt272 => ((laws_toVessels.f k l0_0 l0_1).bind fun bt280 => ((laws_toMoveS.f k l1).bind fun t287 => ((impl_MakeMoves.f k bt280.1 bt280.2 t287).bind fun bt290 => ((laws_eqVessels.f k bt290.1 bt290.2.1 bt272.1 bt272.2.1).bind fun t298 => (if t298 = true then (laws_FnExactMakeMoves.j0 k l1 bt272.2.2 t287 bt290.2.2 (bt290.2.2 != bt272.2.2) l0_0 l0_1 bt272.1 bt272.2.1 bt280.1 bt280.2 bt290.1 bt290.2.1) else (laws_FnExactMakeMoves.j0 k l1 bt272.2.2 t287 bt290.2.2 true l0_0 l0_1 bt272.1 bt272.2.1 bt280.1 bt280.2 bt290.1 bt290.2.1))))))))))))) = some true := h
 clear h
 replace H := Option.bind_eq_some_iff.mp H
 obtain ⟨t261, A30, H⟩ := H
 replace H : (if t261 < 0 then (some true) else ((laws_szMoveS.f l1 t261).bind fun t262 => (if t262 < 0 then (some true) else ((laws_toVessels.f k l0_0 l0_1).bind fun bt263 => ((laws_toMoveS.f k l1).bind fun t269 => ((spec_MakeMoves.f k bt263.1 bt263.2 t269).bind fun bt272 => ((laws_toVessels.f k l0_0 l0_1).bind fun bt280 => ((laws_toMoveS.f k l1).bind fun t287 => ((impl_MakeMoves.f k bt280.1 bt280.2 t287).bind fun bt290 => ((laws_eqVessels.f k bt290.1 bt290.2.1 bt272.1 bt272.2.1).bind fun t298 => (if t298 = true then (laws_FnExactMakeMoves.j0 k l1 bt272.2.2 t287 bt290.2.2 (bt290.2.2 != bt272.2.2) l0_0 l0_1 bt272.1 bt272.2.1 bt280.1 bt280.2 bt290.1 bt290.2.1) else (laws_FnExactMakeMoves.j0 k l1 bt272.2.2 t287 bt290.2.2 true l0_0 l0_1 bt272.1 bt272.2.1 bt280.1 bt280.2 bt290.1 bt290.2.1)))))))))))) = some true := H
 have A3 := Aside0.mk A30
 clear A30
 by_cases c4 : t261 < 0
 ·rw [if_pos c4] at H
  have c4b0 : decide (t261 < 0) = true := decide_eq_true c4
  clear c4
  clear H
  go_enter Try.func8, Try.ntmps8
  go_wp2_with (first | ((with_reducible refine gate_dst (N := 2) rfl ?_); refine box_event ?hg (N := 2) ?hd (cs := #[.slice A0_0 l0_0.length c0_0, .slice A0_1 l0_1.length c0_1]) (t := 24) ?hr ?_; (case hd => rfl); (case hg => rfl); (case hr => first | (go_simp; done) | (go_simp; rfl)); intro gb260 hg w5 hbox hb; have BK260 := Aside0.mk (hbox); have GW260 := xg HB hg; have GE260 := xg HB hg; replace HB := xp HB hb; clear hb hbox hg; have hcz6_0 : w5.cell? ⟨gb260, 0, none⟩ = some (.slice A0_0 l0_0.length c0_0) := (blk_cell BK260.out 0).trans rfl; have hcz6_1 : w5.cell? ⟨gb260, 1, none⟩ = some (.slice A0_1 l0_1.length c0_1) := (blk_cell BK260.out 1).trans rfl; have hfz6_0 := blk_frozen BK260.out 0; have hfz6_1 := blk_frozen BK260.out 1) | ((with_reducible refine gate_callee (f := 15) rfl ?_); refine goesL_ (some 19) rfl rfl Try.func15 (by kernel_rfl) rfl #[.agg #[.slice A0_0 l0_0.length c0_0, .slice A0_1 l0_1.length c0_1], .int .i64 1048576] rfl (by (try simp only [List.map_toArray, List.map_cons, List.map_nil]); first | done | rfl | (simp only [List.length_drop, List.length_take]; rfl)) ?_; (with_reducible refine (laws_szVessels.calls _ _ l0_0 _ _ l0_1 1048576 t261 _ ?side1 ?side2 ?side3 ?side4 A3.out).mono ?_); (case side1 => exact xd ((Kd.C_below HR0_0.out HB.out))); (case side2 => exact HC0_0.out); (case side3 => exact xd ((Kd.C_below HR0_1.out HB.out))); (case side4 => exact HC0_1.out); rintro e w7 ⟨rfl, hb⟩; refine ⟨_, rfl, ?_⟩; replace BK260 := xk BK260 hb; replace HB := xp HB hb; (try clear hb); (try clear hb2); (try clear hk); (try clear hi)))
  go_ret
  exact ⟨by first | rfl | (simp [errW_none, errW_some] <;> rfl) | (simp [*, errW_none, errW_some] <;> rfl), by repeat (first | (with_reducible first | exact HB.out | apply below_alloc | apply pw_below_drewN | apply below_drew1 | refine below_set ?_ GE260.out) | exact HB.out)⟩
 ·rw [if_neg c4] at H
  have c4b0 : decide (t261 < 0) = false := decide_eq_false c4
  clear c4
  replace H := Option.bind_eq_some_iff.mp H
  obtain ⟨t262, A80, H⟩ := H
  replace H : (if t262 < 0 then (some true) else ((laws_toVessels.f k l0_0 l0_1).bind fun bt263 => ((laws_toMoveS.f k l1).bind fun t269 => ((spec_MakeMoves.f k bt263.1 bt263.2 t269).bind fun bt272 => ((laws_toVessels.f k l0_0 l0_1).bind fun bt280 => ((laws_toMoveS.f k l1).bind fun t287 => ((impl_MakeMoves.f k bt280.1 bt280.2 t287).bind fun bt290 => ((laws_eqVessels.f k bt290.1 bt290.2.1 bt272.1 bt272.2.1).bind fun t298 => (if t298 = true then (laws_FnExactMakeMoves.j0 k l1 bt272.2.2 t287 bt290.2.2 (bt290.2.2 != bt272.2.2) l0_0 l0_1 bt272.1 bt272.2.1 bt280.1 bt280.2 bt290.1 bt290.2.1) else (laws_FnExactMakeMoves.j0 k l1 bt272.2.2 t287 bt290.2.2 true l0_0 l0_1 bt272.1 bt272.2.1 bt280.1 bt280.2 bt290.1 bt290.2.1)))))))))) = some true := H
  have A8 := Aside0.mk A80
  clear A80
  by_cases c9 : t262 < 0
  ·rw [if_pos c9] at H
   have c9b0 : decide (t262 < 0) = true := decide_eq_true c9
   clear c9
   clear H
   go_enter Try.func8, Try.ntmps8
   go_wp2_with (first | ((with_reducible refine gate_dst (N := 2) rfl ?_); refine box_event ?hg (N := 2) ?hd (cs := #[.slice A0_0 l0_0.length c0_0, .slice A0_1 l0_1.length c0_1]) (t := 24) ?hr ?_; (case hd => rfl); (case hg => rfl); (case hr => first | (go_simp; done) | (go_simp; rfl)); intro gb260 hg w10 hbox hb; have BK260 := Aside0.mk (hbox); have GW260 := xg HB hg; have GE260 := xg HB hg; replace HB := xp HB hb; clear hb hbox hg; have hcz11_0 : w10.cell? ⟨gb260, 0, none⟩ = some (.slice A0_0 l0_0.length c0_0) := (blk_cell BK260.out 0).trans rfl; have hcz11_1 : w10.cell? ⟨gb260, 1, none⟩ = some (.slice A0_1 l0_1.length c0_1) := (blk_cell BK260.out 1).trans rfl; have hfz11_0 := blk_frozen BK260.out 0; have hfz11_1 := blk_frozen BK260.out 1) | ((with_reducible refine gate_callee (f := 15) rfl ?_); refine goesL_ (some 19) rfl rfl Try.func15 (by kernel_rfl) rfl #[.agg #[.slice A0_0 l0_0.length c0_0, .slice A0_1 l0_1.length c0_1], .int .i64 1048576] rfl (by (try simp only [List.map_toArray, List.map_cons, List.map_nil]); first | done | rfl | (simp only [List.length_drop, List.length_take]; rfl)) ?_; (with_reducible refine (laws_szVessels.calls _ _ l0_0 _ _ l0_1 1048576 t261 _ ?side1 ?side2 ?side3 ?side4 A3.out).mono ?_); (case side1 => exact xd ((Kd.C_below HR0_0.out HB.out))); (case side2 => exact HC0_0.out); (case side3 => exact xd ((Kd.C_below HR0_1.out HB.out))); (case side4 => exact HC0_1.out); rintro e w12 ⟨rfl, hb⟩; refine ⟨_, rfl, ?_⟩; replace BK260 := xk BK260 hb; replace HB := xp HB hb; (try clear hb); (try clear hb2); (try clear hk); (try clear hi)) | ((with_reducible refine gate_callee (f := 29) rfl ?_); refine goesL_ (some 24) rfl rfl Try.func29 (by kernel_rfl) rfl #[.slice A1 l1.length c1, .int .i64 t261] rfl (by (try simp only [List.map_toArray, List.map_cons, List.map_nil]); first | done | rfl | (simp only [List.length_drop, List.length_take]; rfl)) ?_; (with_reducible refine (laws_szMoveS.calls _ _ l1 t261 t262 _ ?side1 ?side2 A8.out).mono ?_); (case side1 => exact xd ((Kd.C_below HR1.out HB.out))); (case side2 => exact HC1.out); rintro e w' ⟨rfl, ⟨nd, rfl⟩⟩; refine ⟨_, rfl, ?_⟩))
   go_ret
   exact ⟨by first | rfl | (simp [errW_none, errW_some] <;> rfl) | (simp [*, errW_none, errW_some] <;> rfl), by repeat (first | (with_reducible first | exact HB.out | apply below_alloc | apply pw_below_drewN | apply below_drew1 | refine below_set ?_ GE260.out) | exact HB.out)⟩
  ·rw [if_neg c9] at H
   have c9b0 : decide (t262 < 0) = false := decide_eq_false c9
   clear c9
   replace H := Option.bind_eq_some_iff.mp H
   obtain ⟨⟨t263, t266⟩, A130, H⟩ := H
   replace H : ((laws_toMoveS.f k l1).bind fun t269 => ((spec_MakeMoves.f k t263 t266 t269).bind fun bt272 => ((laws_toVessels.f k l0_0 l0_1).bind fun bt280 => ((laws_toMoveS.f k l1).bind fun t287 => ((impl_MakeMoves.f k bt280.1 bt280.2 t287).bind fun bt290 => ((laws_eqVessels.f k bt290.1 bt290.2.1 bt272.1 bt272.2.1).bind fun t298 => (if t298 = true then (laws_FnExactMakeMoves.j0 k l1 bt272.2.2 t287 bt290.2.2 (bt290.2.2 != bt272.2.2) l0_0 l0_1 bt272.1 bt272.2.1 bt280.1 bt280.2 bt290.1 bt290.2.1) else (laws_FnExactMakeMoves.j0 k l1 bt272.2.2 t287 bt290.2.2 true l0_0 l0_1 bt272.1 bt272.2.1 bt280.1 bt280.2 bt290.1 bt290.2.1)))))))) = some true := H
   have A13 := Aside0.mk A130
   clear A130
   replace H := Option.bind_eq_some_iff.mp H
   obtain ⟨t269, A140, H⟩ := H
   replace H : ((spec_MakeMoves.f k t263 t266 t269).bind fun bt272 => ((laws_toVessels.f k l0_0 l0_1).bind fun bt280 => ((laws_toMoveS.f k l1).bind fun t287 => ((impl_MakeMoves.f k bt280.1 bt280.2 t287).bind fun bt290 => ((laws_eqVessels.f k bt290.1 bt290.2.1 bt272.1 bt272.2.1).bind fun t298 => (if t298 = true then (laws_FnExactMakeMoves.j0 k l1 bt272.2.2 t287 bt290.2.2 (bt290.2.2 != bt272.2.2) l0_0 l0_1 bt272.1 bt272.2.1 bt280.1 bt280.2 bt290.1 bt290.2.1) else (laws_FnExactMakeMoves.j0 k l1 bt272.2.2 t287 bt290.2.2 true l0_0 l0_1 bt272.1 bt272.2.1 bt280.1 bt280.2 bt290.1 bt290.2.1))))))) = some true := H
   have A14 := Aside0.mk A140
   clear A140
   replace H := Option.bind_eq_some_iff.mp H
   obtain ⟨⟨t272, t275, t278⟩, A150, H⟩ := H
   replace H : ((laws_toVessels.f k l0_0 l0_1).bind fun bt280 => ((laws_toMoveS.f k l1).bind fun t287 => ((impl_MakeMoves.f k bt280.1 bt280.2 t287).bind fun bt290 => ((laws_eqVessels.f k bt290.1 bt290.2.1 t272 t275).bind fun t298 => (if t298 = true then (laws_FnExactMakeMoves.j0 k l1 t278 t287 bt290.2.2 (bt290.2.2 != t278) l0_0 l0_1 t272 t275 bt280.1 bt280.2 bt290.1 bt290.2.1) else (laws_FnExactMakeMoves.j0 k l1 t278 t287 bt290.2.2 true l0_0 l0_1 t272 t275 bt280.1 bt280.2 bt290.1 bt290.2.1)))))) = some true := H
   have A15 := Aside0.mk A150
   clear A150
   replace H := Option.bind_eq_some_iff.mp H
   obtain ⟨⟨t280, t283⟩, A160, H⟩ := H
   replace H : ((laws_toMoveS.f k l1).bind fun t287 => ((impl_MakeMoves.f k t280 t283 t287).bind fun bt290 => ((laws_eqVessels.f k bt290.1 bt290.2.1 t272 t275).bind fun t298 => (if t298 = true then (laws_FnExactMakeMoves.j0 k l1 t278 t287 bt290.2.2 (bt290.2.2 != t278) l0_0 l0_1 t272 t275 t280 t283 bt290.1 bt290.2.1) else (laws_FnExactMakeMoves.j0 k l1 t278 t287 bt290.2.2 true l0_0 l0_1 t272 t275 t280 t283 bt290.1 bt290.2.1))))) = some true := H
   have A16 := Aside0.mk A160
   clear A160
   replace H := Option.bind_eq_some_iff.mp H
   obtain ⟨t287, A170, H⟩ := H
   replace H : ((impl_MakeMoves.f k t280 t283 t287).bind fun bt290 => ((laws_eqVessels.f k bt290.1 bt290.2.1 t272 t275).bind fun t298 => (if t298 = true then (laws_FnExactMakeMoves.j0 k l1 t278 t287 bt290.2.2 (bt290.2.2 != t278) l0_0 l0_1 t272 t275 t280 t283 bt290.1 bt290.2.1) else (laws_FnExactMakeMoves.j0 k l1 t278 t287 bt290.2.2 true l0_0 l0_1 t272 t275 t280 t283 bt290.1 bt290.2.1)))) = some true := H
   have A17 := Aside0.mk A170
   clear A170
   replace H := Option.bind_eq_some_iff.mp H
   obtain ⟨⟨t290, t293, t296⟩, A180, H⟩ := H
   replace H : ((laws_eqVessels.f k t290 t293 t272 t275).bind fun t298 => (if t298 = true then (laws_FnExactMakeMoves.j0 k l1 t278 t287 t296 (t296 != t278) l0_0 l0_1 t272 t275 t280 t283 t290 t293) else (laws_FnExactMakeMoves.j0 k l1 t278 t287 t296 true l0_0 l0_1 t272 t275 t280 t283 t290 t293))) = some true := H
   have A18 := Aside0.mk A180
   clear A180
   have HC19 := Aside0.mk H
   clear H
   go_enter Try.func8, Try.ntmps8
   go_upto_region 12 with (first | ((with_reducible refine gate_dst (N := 2) rfl ?_); refine box_event ?hg (N := 2) ?hd (cs := #[.slice A0_0 l0_0.length c0_0, .slice A0_1 l0_1.length c0_1]) (t := 24) ?hr ?_; (case hd => rfl); (case hg => rfl); (case hr => first | (go_simp; done) | (go_simp; rfl)); intro gb260 hg w20 hbox hb; have BK260 := Aside0.mk (hbox); have GW260 := xg HB hg; have GE260 := xg HB hg; replace HB := xp HB hb; clear hb hbox hg; have hcz21_0 : w20.cell? ⟨gb260, 0, none⟩ = some (.slice A0_0 l0_0.length c0_0) := (blk_cell BK260.out 0).trans rfl; have hcz21_1 : w20.cell? ⟨gb260, 1, none⟩ = some (.slice A0_1 l0_1.length c0_1) := (blk_cell BK260.out 1).trans rfl; have hfz21_0 := blk_frozen BK260.out 0; have hfz21_1 := blk_frozen BK260.out 1) | ((with_reducible refine gate_callee (f := 15) rfl ?_); refine goesL_ (some 19) rfl rfl Try.func15 (by kernel_rfl) rfl #[.agg #[.slice A0_0 l0_0.length c0_0, .slice A0_1 l0_1.length c0_1], .int .i64 1048576] rfl (by (try simp only [List.map_toArray, List.map_cons, List.map_nil]); first | done | rfl | (simp only [List.length_drop, List.length_take]; rfl)) ?_; (with_reducible refine (laws_szVessels.calls _ _ l0_0 _ _ l0_1 1048576 t261 _ ?side1 ?side2 ?side3 ?side4 A3.out).mono ?_); (case side1 => exact xd ((Kd.C_below HR0_0.out HB.out))); (case side2 => exact HC0_0.out); (case side3 => exact xd ((Kd.C_below HR0_1.out HB.out))); (case side4 => exact HC0_1.out); rintro e w22 ⟨rfl, hb⟩; refine ⟨_, rfl, ?_⟩; replace BK260 := xk BK260 hb; replace HB := xp HB hb; (try clear hb); (try clear hb2); (try clear hk); (try clear hi)) | ((with_reducible refine gate_callee (f := 29) rfl ?_); refine goesL_ (some 24) rfl rfl Try.func29 (by kernel_rfl) rfl #[.slice A1 l1.length c1, .int .i64 t261] rfl (by (try simp only [List.map_toArray, List.map_cons, List.map_nil]); first | done | rfl | (simp only [List.length_drop, List.length_take]; rfl)) ?_; (with_reducible refine (laws_szMoveS.calls _ _ l1 t261 t262 _ ?side1 ?side2 A8.out).mono ?_); (case side1 => exact xd ((Kd.C_below HR1.out HB.out))); (case side2 => exact HC1.out); rintro e w' ⟨rfl, ⟨nd, rfl⟩⟩; refine ⟨_, rfl, ?_⟩; (try (rw [drewN_self w22]; generalize hq_ : World.drewN w22 _ = w22; have n0_ : Aside0 (w22.heap[gb260]? = some (.cells #[.slice A0_0 l0_0.length c0_0, .slice A0_1 l0_1.length c0_1] 24 (0, 0))) := ⟨by rw [← hq_]; exact (xb BK260.out)⟩; have n1_ : Aside0 (Below w.heap.size w w22) := ⟨by rw [← hq_]; exact (xs HB.out)⟩; clear BK260 HB hq_; have BK260 := n0_; have HB := n1_; clear n0_ n1_)); have hcz23_0 : w22.cell? ⟨gb260, 0, none⟩ = some (.slice A0_0 l0_0.length c0_0) := (blk_cell BK260.out 0).trans rfl; have hcz23_1 : w22.cell? ⟨gb260, 1, none⟩ = some (.slice A0_1 l0_1.length c0_1) := (blk_cell BK260.out 1).trans rfl; have hfz23_0 := blk_frozen BK260.out 0; have hfz23_1 := blk_frozen BK260.out 1) | ((with_reducible refine gate_callee (f := 17) rfl ?_); refine goesL_ (some 29) rfl rfl Try.func17 (by kernel_rfl) rfl #[.agg #[.slice A0_0 l0_0.length c0_0, .slice A0_1 l0_1.length c0_1]] rfl (by (try simp only [List.map_toArray, List.map_cons, List.map_nil]); first | done | rfl | (simp only [List.length_drop, List.length_take]; rfl)) ?_; (with_reducible refine (laws_toVessels.calls k _ _ l0_0 _ _ l0_1 t263 t266 _ ?side1 ?side2 ?side3 ?side4 A13.out).mono ?_); (case side1 => exact xd ((Kd.C_below HR0_0.out HB.out))); (case side2 => exact HC0_0.out); (case side3 => exact xd ((Kd.C_below HR0_1.out HB.out))); (case side4 => exact HC0_1.out); rintro e w24 ⟨v264, v267, rfl, ho0, ho1, hb⟩; refine ⟨_, rfl, ?_⟩; have HO265 := Aside0.mk (Kd.R_lower ho0 (below_size (xs HB.out))); have HO268 := Aside0.mk (Kd.R_lower ho1 (below_size (xs HB.out))); replace BK260 := xk BK260 hb; replace HB := xp HB hb; (try clear hb); (try clear hb2); (try clear hk); (try clear hi); (try clear ho0); (try clear ho1)) | ((with_reducible refine gate_callee (f := 31) rfl ?_); refine goesL_ (some 31) rfl rfl Try.func31 (by kernel_rfl) rfl #[.slice A1 l1.length c1] rfl (by (try simp only [List.map_toArray, List.map_cons, List.map_nil]); first | done | rfl | (simp only [List.length_drop, List.length_take]; rfl)) ?_; (with_reducible refine (laws_toMoveS.calls k _ _ l1 t269 _ ?side1 ?side2 A14.out).mono ?_); (case side1 => exact xd ((Kd.C_below HR1.out HB.out))); (case side2 => exact HC1.out); rintro e w25 ⟨v270, rfl, ho0, hb⟩; refine ⟨_, rfl, ?_⟩; replace HO265 := xq HO265 hb; replace HO268 := xq HO268 hb; have HO271 := Aside0.mk (Kd.R_lower ho0 (below_size (xs HB.out))); replace BK260 := xk BK260 hb; replace HB := xp HB hb; (try clear hb); (try clear hb2); (try clear hk); (try clear hi); (try clear ho0); obtain ⟨Ao26, co26, eo26⟩ := Kd.R_slice HO265.out; subst eo26; obtain ⟨Ao27, co27, eo27⟩ := Kd.R_slice HO268.out; subst eo27; obtain ⟨Ao28, co28, eo28⟩ := Kd.R_slice HO271.out; subst eo28) | ((with_reducible refine gate_callee (f := 34) rfl ?_); refine goesL_ (some 32) rfl rfl Try.func34 (by kernel_rfl) rfl #[.agg #[.slice Ao26 t263.length co26, .slice Ao27 t266.length co27], .slice Ao28 t269.length co28] rfl (by (try simp only [List.map_toArray, List.map_cons, List.map_nil]); first | done | rfl | (simp only [List.length_drop, List.length_take]; rfl)) ?_; (with_reducible refine (spec_MakeMoves.calls k _ _ t263 _ _ t266 _ _ t269 t272 t275 t278 _ ?side1 ?side2 ?side3 ?side4 ?side5 ?side6 A15.out).mono ?_); (case side1 => exact xd ((Kd.R_reads' HO265.out).2.2)); (case side2 => exact (Kd.R_reads' HO265.out).2.1); (case side3 => exact xd ((Kd.R_reads' HO268.out).2.2)); (case side4 => exact (Kd.R_reads' HO268.out).2.1); (case side5 => exact xd ((Kd.R_reads' HO271.out).2.2)); (case side6 => exact (Kd.R_reads' HO271.out).2.1); rintro e w29 ⟨v273, v276, rfl, ho0, ho1, hb⟩; refine ⟨_, rfl, ?_⟩; replace HO271 := xq HO271 hb; have HO274 := Aside0.mk (Kd.R_lower (Kd.R_new' (Kd.R_new' ho0 (Kd.R_lt (xr HO265.out))) (Kd.R_lt (xr HO268.out))) (below_size (xs HB.out))); have HO277 := Aside0.mk (Kd.R_lower (Kd.R_new' (Kd.R_new' ho1 (Kd.R_lt (xr HO265.out))) (Kd.R_lt (xr HO268.out))) (below_size (xs HB.out))); replace HO265 := xt HO265 hb ho0 ho1; replace HO268 := xt HO268 hb ho0 ho1; replace BK260 := xk BK260 hb; replace HB := xp HB hb; (try clear hb); (try clear hb2); (try clear hk); (try clear hi); (try clear ho0); (try clear ho1)) | ((with_reducible refine gate_dst (N := 6) rfl ?_); refine box_event ?hg (N := 6) ?hd (cs := #[.slice none 0 0, .slice none 0 0]) (t := 26) ?hr ?_; (case hd => rfl); (case hg => rfl); (case hr => first | (go_simp; done) | (go_simp; rfl)); intro gb279 hg w30 hbox hb; replace HO265 := xq HO265 hb; replace HO268 := xq HO268 hb; replace HO271 := xq HO271 hb; replace HO274 := xq HO274 hb; replace HO277 := xq HO277 hb; have BK279 := Aside0.mk (hbox); have GW279 := xg HB hg; have GE279 := xg HB hg; replace HB := xp HB hb; have NB260_279 := xl BK260 hg; have NB279_260 := xh BK260 hg; replace BK260 := xk BK260 hb; clear hb hbox hg; obtain ⟨Ao31, co31, eo31⟩ := Kd.R_slice HO274.out; subst eo31; have hnb32 := NB279_260.out; have hnc32 := NB260_279.out; have hcz33_0 : w30.cell? ⟨gb279, 0, none⟩ = some (.slice none 0 0) := (blk_cell BK279.out 0).trans rfl; have hcz33_1 : w30.cell? ⟨gb279, 1, none⟩ = some (.slice none 0 0) := (blk_cell BK279.out 1).trans rfl; have hfz33_0 := blk_frozen BK279.out 0; have hfz33_1 := blk_frozen BK279.out 1; obtain ⟨Ao34, co34, eo34⟩ := Kd.R_slice HO277.out; subst eo34; have hcz35_0 : w30.cell? ⟨gb260, 0, none⟩ = some (.slice A0_0 l0_0.length c0_0) := (blk_cell BK260.out 0).trans rfl; have hcz35_1 : w30.cell? ⟨gb260, 1, none⟩ = some (.slice A0_1 l0_1.length c0_1) := (blk_cell BK260.out 1).trans rfl; have hfz35_0 := blk_frozen BK260.out 0; have hfz35_1 := blk_frozen BK260.out 1) | ((with_reducible refine gate_callee (f := 17) rfl ?_); refine goesL_ (some 36) rfl rfl Try.func17 (by kernel_rfl) rfl #[.agg #[.slice A0_0 l0_0.length c0_0, .slice A0_1 l0_1.length c0_1]] rfl (by (try simp only [List.map_toArray, List.map_cons, List.map_nil]); first | done | rfl | (simp only [List.length_drop, List.length_take]; rfl)) ?_; (with_reducible refine (laws_toVessels.calls k _ _ l0_0 _ _ l0_1 t280 t283 _ ?side1 ?side2 ?side3 ?side4 A16.out).mono ?_); (case side1 => exact Kd.C_below HR0_0.out (xs HB.out)); (case side2 => exact HC0_0.out); (case side3 => exact Kd.C_below HR0_1.out (xs HB.out)); (case side4 => exact HC0_1.out); rintro e w36 ⟨v281, v284, rfl, ho0, ho1, hb⟩; refine ⟨_, rfl, ?_⟩; replace HO271 := Aside0.mk (Kd.R_below (by (with_reducible repeat (first | apply Kd.R_alloc | apply Kd.R_drewN | apply Kd.R_drew)); exact (Kd.R_mono (Kd.R_far (p := ⟨gb279, 1, none⟩) (Kd.R_far (p := ⟨gb279, 0, none⟩) (Kd.R_types HO271.out BK279.out (by decide)) (fun _ hk => hk.2) (.slice Ao31 t272.length co31)) (fun _ hk => hk.2) (.slice Ao34 t275.length co34)) (fun _ h_ => h_.1))) hb); have HO282 := Aside0.mk (Kd.R_lower (Kd.R_new' (Kd.R_new' (Kd.R_new' (Kd.R_new' ho0 (Kd.R_lt (by (with_reducible repeat (first | apply Kd.R_alloc | apply Kd.R_drewN | apply Kd.R_drew)); exact (Kd.R_mono (Kd.R_far (p := ⟨gb279, 1, none⟩) (Kd.R_far (p := ⟨gb279, 0, none⟩) (Kd.R_types HO265.out BK279.out (by decide)) (fun _ hk => hk.2) (.slice Ao31 t272.length co31)) (fun _ hk => hk.2) (.slice Ao34 t275.length co34)) (fun _ h_ => h_.1))))) (Kd.R_lt (by (with_reducible repeat (first | apply Kd.R_alloc | apply Kd.R_drewN | apply Kd.R_drew)); exact (Kd.R_mono (Kd.R_far (p := ⟨gb279, 1, none⟩) (Kd.R_far (p := ⟨gb279, 0, none⟩) (Kd.R_types HO268.out BK279.out (by decide)) (fun _ hk => hk.2) (.slice Ao31 t272.length co31)) (fun _ hk => hk.2) (.slice Ao34 t275.length co34)) (fun _ h_ => h_.1))))) (Kd.R_lt (by (with_reducible repeat (first | apply Kd.R_alloc | apply Kd.R_drewN | apply Kd.R_drew)); exact (Kd.R_mono (Kd.R_far (p := ⟨gb279, 1, none⟩) (Kd.R_far (p := ⟨gb279, 0, none⟩) (Kd.R_types HO274.out BK279.out (by decide)) (fun _ hk => hk.2) (.slice Ao31 t272.length co31)) (fun _ hk => hk.2) (.slice Ao34 t275.length co34)) (fun _ h_ => h_.1))))) (Kd.R_lt (by (with_reducible repeat (first | apply Kd.R_alloc | apply Kd.R_drewN | apply Kd.R_drew)); exact (Kd.R_mono (Kd.R_far (p := ⟨gb279, 1, none⟩) (Kd.R_far (p := ⟨gb279, 0, none⟩) (Kd.R_types HO277.out BK279.out (by decide)) (fun _ hk => hk.2) (.slice Ao31 t272.length co31)) (fun _ hk => hk.2) (.slice Ao34 t275.length co34)) (fun _ h_ => h_.1))))) (below_size (xs HB.out))); have HO285 := Aside0.mk (Kd.R_lower (Kd.R_new' (Kd.R_new' (Kd.R_new' (Kd.R_new' ho1 (Kd.R_lt (by (with_reducible repeat (first | apply Kd.R_alloc | apply Kd.R_drewN | apply Kd.R_drew)); exact (Kd.R_mono (Kd.R_far (p := ⟨gb279, 1, none⟩) (Kd.R_far (p := ⟨gb279, 0, none⟩) (Kd.R_types HO265.out BK279.out (by decide)) (fun _ hk => hk.2) (.slice Ao31 t272.length co31)) (fun _ hk => hk.2) (.slice Ao34 t275.length co34)) (fun _ h_ => h_.1))))) (Kd.R_lt (by (with_reducible repeat (first | apply Kd.R_alloc | apply Kd.R_drewN | apply Kd.R_drew)); exact (Kd.R_mono (Kd.R_far (p := ⟨gb279, 1, none⟩) (Kd.R_far (p := ⟨gb279, 0, none⟩) (Kd.R_types HO268.out BK279.out (by decide)) (fun _ hk => hk.2) (.slice Ao31 t272.length co31)) (fun _ hk => hk.2) (.slice Ao34 t275.length co34)) (fun _ h_ => h_.1))))) (Kd.R_lt (by (with_reducible repeat (first | apply Kd.R_alloc | apply Kd.R_drewN | apply Kd.R_drew)); exact (Kd.R_mono (Kd.R_far (p := ⟨gb279, 1, none⟩) (Kd.R_far (p := ⟨gb279, 0, none⟩) (Kd.R_types HO274.out BK279.out (by decide)) (fun _ hk => hk.2) (.slice Ao31 t272.length co31)) (fun _ hk => hk.2) (.slice Ao34 t275.length co34)) (fun _ h_ => h_.1))))) (Kd.R_lt (by (with_reducible repeat (first | apply Kd.R_alloc | apply Kd.R_drewN | apply Kd.R_drew)); exact (Kd.R_mono (Kd.R_far (p := ⟨gb279, 1, none⟩) (Kd.R_far (p := ⟨gb279, 0, none⟩) (Kd.R_types HO277.out BK279.out (by decide)) (fun _ hk => hk.2) (.slice Ao31 t272.length co31)) (fun _ hk => hk.2) (.slice Ao34 t275.length co34)) (fun _ h_ => h_.1))))) (below_size (xs HB.out))); replace HO265 := Aside0.mk (Kd.R_mono (Kd.R_told (Kd.R_told (Kd.R_old (by (with_reducible repeat (first | apply Kd.R_alloc | apply Kd.R_drewN | apply Kd.R_drew)); exact (Kd.R_mono (Kd.R_far (p := ⟨gb279, 1, none⟩) (Kd.R_far (p := ⟨gb279, 0, none⟩) (Kd.R_types HO265.out BK279.out (by decide)) (fun _ hk => hk.2) (.slice Ao31 t272.length co31)) (fun _ hk => hk.2) (.slice Ao34 t275.length co34)) (fun _ h_ => h_.1))) hb) (Kd.R_base ho0)) (Kd.R_base ho1)) (fun _ h_ => h_.1)); replace HO268 := Aside0.mk (Kd.R_mono (Kd.R_told (Kd.R_told (Kd.R_old (by (with_reducible repeat (first | apply Kd.R_alloc | apply Kd.R_drewN | apply Kd.R_drew)); exact (Kd.R_mono (Kd.R_far (p := ⟨gb279, 1, none⟩) (Kd.R_far (p := ⟨gb279, 0, none⟩) (Kd.R_types HO268.out BK279.out (by decide)) (fun _ hk => hk.2) (.slice Ao31 t272.length co31)) (fun _ hk => hk.2) (.slice Ao34 t275.length co34)) (fun _ h_ => h_.1))) hb) (Kd.R_base ho0)) (Kd.R_base ho1)) (fun _ h_ => h_.1)); replace HO274 := Aside0.mk (Kd.R_mono (Kd.R_told (Kd.R_told (Kd.R_old (by (with_reducible repeat (first | apply Kd.R_alloc | apply Kd.R_drewN | apply Kd.R_drew)); exact (Kd.R_mono (Kd.R_far (p := ⟨gb279, 1, none⟩) (Kd.R_far (p := ⟨gb279, 0, none⟩) (Kd.R_types HO274.out BK279.out (by decide)) (fun _ hk => hk.2) (.slice Ao31 t272.length co31)) (fun _ hk => hk.2) (.slice Ao34 t275.length co34)) (fun _ h_ => h_.1))) hb) (Kd.R_base ho0)) (Kd.R_base ho1)) (fun _ h_ => h_.1)); replace HO277 := Aside0.mk (Kd.R_mono (Kd.R_told (Kd.R_told (Kd.R_old (by (with_reducible repeat (first | apply Kd.R_alloc | apply Kd.R_drewN | apply Kd.R_drew)); exact (Kd.R_mono (Kd.R_far (p := ⟨gb279, 1, none⟩) (Kd.R_far (p := ⟨gb279, 0, none⟩) (Kd.R_types HO277.out BK279.out (by decide)) (fun _ hk => hk.2) (.slice Ao31 t272.length co31)) (fun _ hk => hk.2) (.slice Ao34 t275.length co34)) (fun _ h_ => h_.1))) hb) (Kd.R_base ho0)) (Kd.R_base ho1)) (fun _ h_ => h_.1)); replace BK260 := Aside0.mk (blk_below (g := gb260) (o := .cells #[.slice A0_0 l0_0.length c0_0, .slice A0_1 l0_1.length c0_1] 24 (0, 0)) (xff NB260_279.out NB260_279.out BK260.out) hb); replace BK279 := Aside0.mk (blk_below (g := gb279) (o := .cells #[.slice Ao31 t272.length co31, .slice Ao34 t275.length co34] 26 (0, 0)) (by (with_reducible repeat (first | refine blk_drewN ?_ _ | refine blk_drew ?_ | refine blk_alloc ?_ _)); refine blk_put (cs := #[.slice Ao31 t272.length co31, .slice none 0 0]) ?_ 1 _ rfl; (with_reducible repeat (first | refine blk_drewN ?_ _ | refine blk_drew ?_ | refine blk_alloc ?_ _)); refine blk_put (cs := #[.slice none 0 0, .slice none 0 0]) ?_ 0 _ rfl; (with_reducible repeat (first | refine blk_drewN ?_ _ | refine blk_drew ?_ | refine blk_alloc ?_ _)); exact BK279.out) hb); replace HB := xp HB hb; (try clear hb); (try clear hb2); (try clear hk); (try clear hi); (try clear ho0); (try clear ho1)) | ((with_reducible refine gate_dst (N := 8) rfl ?_); refine box_event ?hg (N := 8) ?hd (cs := #[.slice none 0 0, .slice none 0 0]) (t := 26) ?hr ?_; (case hd => rfl); (case hg => rfl); (case hr => first | (go_simp; done) | (go_simp; rfl)); intro gb286 hg w37 hbox hb; replace HO265 := xq HO265 hb; replace HO268 := xq HO268 hb; replace HO271 := xq HO271 hb; replace HO274 := xq HO274 hb; replace HO277 := xq HO277 hb; replace HO282 := xq HO282 hb; replace HO285 := xq HO285 hb; have BK286 := Aside0.mk (hbox); have GW286 := xg HB hg; have GE286 := xg HB hg; replace HB := xp HB hb; have NB260_286 := xl BK260 hg; have NB286_260 := xh BK260 hg; replace BK260 := xk BK260 hb; have NB279_286 := xl BK279 hg; have NB286_279 := xh BK279 hg; replace BK279 := xk BK279 hb; clear hb hbox hg; obtain ⟨Ao38, co38, eo38⟩ := Kd.R_slice HO282.out; subst eo38; have hnb39 := NB286_260.out; have hnc39 := NB260_286.out; have hnb40 := NB286_279.out; have hnc40 := NB279_286.out; have hcz41_0 : w37.cell? ⟨gb286, 0, none⟩ = some (.slice none 0 0) := (blk_cell BK286.out 0).trans rfl; have hcz41_1 : w37.cell? ⟨gb286, 1, none⟩ = some (.slice none 0 0) := (blk_cell BK286.out 1).trans rfl; have hfz41_0 := blk_frozen BK286.out 0; have hfz41_1 := blk_frozen BK286.out 1; obtain ⟨Ao42, co42, eo42⟩ := Kd.R_slice HO285.out; subst eo42) | ((with_reducible refine gate_callee (f := 31) rfl ?_); refine goesL_ (some 38) rfl rfl Try.func31 (by kernel_rfl) rfl #[.slice A1 l1.length c1] rfl (by (try simp only [List.map_toArray, List.map_cons, List.map_nil]); first | done | rfl | (simp only [List.length_drop, List.length_take]; rfl)) ?_; (with_reducible refine (laws_toMoveS.calls k _ _ l1 t287 _ ?side1 ?side2 A17.out).mono ?_); (case side1 => exact Kd.C_below HR1.out (xs HB.out)); (case side2 => exact HC1.out); rintro e w43 ⟨v288, rfl, ho0, hb⟩; refine ⟨_, rfl, ?_⟩; replace HO265 := Aside0.mk (Kd.R_below (by (with_reducible repeat (first | apply Kd.R_alloc | apply Kd.R_drewN | apply Kd.R_drew)); exact (Kd.R_mono (Kd.R_far (p := ⟨gb286, 1, none⟩) (Kd.R_far (p := ⟨gb286, 0, none⟩) (Kd.R_types HO265.out BK286.out (by decide)) (fun _ hk => hk.2) (.slice Ao38 t280.length co38)) (fun _ hk => hk.2) (.slice Ao42 t283.length co42)) (fun _ h_ => h_.1))) hb); replace HO268 := Aside0.mk (Kd.R_below (by (with_reducible repeat (first | apply Kd.R_alloc | apply Kd.R_drewN | apply Kd.R_drew)); exact (Kd.R_mono (Kd.R_far (p := ⟨gb286, 1, none⟩) (Kd.R_far (p := ⟨gb286, 0, none⟩) (Kd.R_types HO268.out BK286.out (by decide)) (fun _ hk => hk.2) (.slice Ao38 t280.length co38)) (fun _ hk => hk.2) (.slice Ao42 t283.length co42)) (fun _ h_ => h_.1))) hb); replace HO274 := Aside0.mk (Kd.R_below (by (with_reducible repeat (first | apply Kd.R_alloc | apply Kd.R_drewN | apply Kd.R_drew)); exact (Kd.R_mono (Kd.R_far (p := ⟨gb286, 1, none⟩) (Kd.R_far (p := ⟨gb286, 0, none⟩) (Kd.R_types HO274.out BK286.out (by decide)) (fun _ hk => hk.2) (.slice Ao38 t280.length co38)) (fun _ hk => hk.2) (.slice Ao42 t283.length co42)) (fun _ h_ => h_.1))) hb); replace HO277 := Aside0.mk (Kd.R_below (by (with_reducible repeat (first | apply Kd.R_alloc | apply Kd.R_drewN | apply Kd.R_drew)); exact (Kd.R_mono (Kd.R_far (p := ⟨gb286, 1, none⟩) (Kd.R_far (p := ⟨gb286, 0, none⟩) (Kd.R_types HO277.out BK286.out (by decide)) (fun _ hk => hk.2) (.slice Ao38 t280.length co38)) (fun _ hk => hk.2) (.slice Ao42 t283.length co42)) (fun _ h_ => h_.1))) hb); replace HO282 := Aside0.mk (Kd.R_below (by (with_reducible repeat (first | apply Kd.R_alloc | apply Kd.R_drewN | apply Kd.R_drew)); exact (Kd.R_mono (Kd.R_far (p := ⟨gb286, 1, none⟩) (Kd.R_far (p := ⟨gb286, 0, none⟩) (Kd.R_types HO282.out BK286.out (by decide)) (fun _ hk => hk.2) (.slice Ao38 t280.length co38)) (fun _ hk => hk.2) (.slice Ao42 t283.length co42)) (fun _ h_ => h_.1))) hb); replace HO285 := Aside0.mk (Kd.R_below (by (with_reducible repeat (first | apply Kd.R_alloc | apply Kd.R_drewN | apply Kd.R_drew)); exact (Kd.R_mono (Kd.R_far (p := ⟨gb286, 1, none⟩) (Kd.R_far (p := ⟨gb286, 0, none⟩) (Kd.R_types HO285.out BK286.out (by decide)) (fun _ hk => hk.2) (.slice Ao38 t280.length co38)) (fun _ hk => hk.2) (.slice Ao42 t283.length co42)) (fun _ h_ => h_.1))) hb); have HO289 := Aside0.mk (Kd.R_lower (Kd.R_new' ho0 (Kd.R_lt (by (with_reducible repeat (first | apply Kd.R_alloc | apply Kd.R_drewN | apply Kd.R_drew)); exact (Kd.R_mono (Kd.R_far (p := ⟨gb286, 1, none⟩) (Kd.R_far (p := ⟨gb286, 0, none⟩) (Kd.R_types HO271.out BK286.out (by decide)) (fun _ hk => hk.2) (.slice Ao38 t280.length co38)) (fun _ hk => hk.2) (.slice Ao42 t283.length co42)) (fun _ h_ => h_.1))))) (below_size (xs HB.out))); replace HO271 := Aside0.mk (Kd.R_elder' (by (with_reducible repeat (first | apply Kd.R_alloc | apply Kd.R_drewN | apply Kd.R_drew)); exact (Kd.R_mono (Kd.R_far (p := ⟨gb286, 1, none⟩) (Kd.R_far (p := ⟨gb286, 0, none⟩) (Kd.R_types HO271.out BK286.out (by decide)) (fun _ hk => hk.2) (.slice Ao38 t280.length co38)) (fun _ hk => hk.2) (.slice Ao42 t283.length co42)) (fun _ h_ => h_.1))) (Kd.R_base ho0) hb); replace BK260 := Aside0.mk (blk_below (g := gb260) (o := .cells #[.slice A0_0 l0_0.length c0_0, .slice A0_1 l0_1.length c0_1] 24 (0, 0)) (xff NB260_286.out NB260_286.out BK260.out) hb); replace BK279 := Aside0.mk (blk_below (g := gb279) (o := .cells #[.slice Ao31 t272.length co31, .slice Ao34 t275.length co34] 26 (0, 0)) (xff NB279_286.out NB279_286.out BK279.out) hb); replace BK286 := Aside0.mk (blk_below (g := gb286) (o := .cells #[.slice Ao38 t280.length co38, .slice Ao42 t283.length co42] 26 (0, 0)) (by (with_reducible repeat (first | refine blk_drewN ?_ _ | refine blk_drew ?_ | refine blk_alloc ?_ _)); refine blk_put (cs := #[.slice Ao38 t280.length co38, .slice none 0 0]) ?_ 1 _ rfl; (with_reducible repeat (first | refine blk_drewN ?_ _ | refine blk_drew ?_ | refine blk_alloc ?_ _)); refine blk_put (cs := #[.slice none 0 0, .slice none 0 0]) ?_ 0 _ rfl; (with_reducible repeat (first | refine blk_drewN ?_ _ | refine blk_drew ?_ | refine blk_alloc ?_ _)); exact BK286.out) hb); replace HB := xp HB hb; (try clear hb); (try clear hb2); (try clear hk); (try clear hi); (try clear ho0); have hcz44_0 : w43.cell? ⟨gb286, 0, none⟩ = some (.slice Ao38 t280.length co38) := (blk_cell BK286.out 0).trans rfl; have hcz44_1 : w43.cell? ⟨gb286, 1, none⟩ = some (.slice Ao42 t283.length co42) := (blk_cell BK286.out 1).trans rfl; have hfz44_0 := blk_frozen BK286.out 0; have hfz44_1 := blk_frozen BK286.out 1; obtain ⟨Ao45, co45, eo45⟩ := Kd.R_slice HO289.out; subst eo45) | ((with_reducible refine gate_callee (f := 35) rfl ?_); refine goesL_ (some 42) rfl rfl Try.func35 (by kernel_rfl) rfl #[.agg #[.slice Ao38 t280.length co38, .slice Ao42 t283.length co42], .slice Ao45 t287.length co45] rfl (by (try simp only [List.map_toArray, List.map_cons, List.map_nil]); first | done | rfl | (simp only [List.length_drop, List.length_take]; rfl)) ?_; (with_reducible refine (impl_MakeMoves.calls k _ _ t280 _ _ t283 _ _ t287 t290 t293 t296 _ ?side1 ?side2 ?side3 ?side4 ?side5 ?side6 A18.out).mono ?_); (case side1 => exact xd ((Kd.R_reads' HO282.out).2.2)); (case side2 => exact (Kd.R_reads' HO282.out).2.1); (case side3 => exact xd ((Kd.R_reads' HO285.out).2.2)); (case side4 => exact (Kd.R_reads' HO285.out).2.1); (case side5 => exact xd ((Kd.R_reads' HO289.out).2.2)); (case side6 => exact (Kd.R_reads' HO289.out).2.1); rintro e w46 ⟨v291, v294, rfl, ho0, ho1, hb⟩; refine ⟨_, rfl, ?_⟩; replace HO271 := xq HO271 hb; replace HO289 := xq HO289 hb; have HO292 := Aside0.mk (Kd.R_lower (Kd.R_new' (Kd.R_new' (Kd.R_new' (Kd.R_new' (Kd.R_new' (Kd.R_new' ho0 (Kd.R_lt (xr HO265.out))) (Kd.R_lt (xr HO268.out))) (Kd.R_lt (xr HO274.out))) (Kd.R_lt (xr HO277.out))) (Kd.R_lt (xr HO282.out))) (Kd.R_lt (xr HO285.out))) (below_size (xs HB.out))); have HO295 := Aside0.mk (Kd.R_lower (Kd.R_new' (Kd.R_new' (Kd.R_new' (Kd.R_new' (Kd.R_new' (Kd.R_new' ho1 (Kd.R_lt (xr HO265.out))) (Kd.R_lt (xr HO268.out))) (Kd.R_lt (xr HO274.out))) (Kd.R_lt (xr HO277.out))) (Kd.R_lt (xr HO282.out))) (Kd.R_lt (xr HO285.out))) (below_size (xs HB.out))); replace HO265 := xt HO265 hb ho0 ho1; replace HO268 := xt HO268 hb ho0 ho1; replace HO274 := xt HO274 hb ho0 ho1; replace HO277 := xt HO277 hb ho0 ho1; replace HO282 := xt HO282 hb ho0 ho1; replace HO285 := xt HO285 hb ho0 ho1; replace BK260 := xk BK260 hb; replace BK279 := xk BK279 hb; replace BK286 := xk BK286 hb; replace HB := xp HB hb; (try clear hb); (try clear hb2); (try clear hk); (try clear hi); (try clear ho0); (try clear ho1)) | ((with_reducible refine gate_dst (N := 10) rfl ?_); refine box_event ?hg (N := 10) ?hd (cs := #[.slice none 0 0, .slice none 0 0]) (t := 26) ?hr ?_; (case hd => rfl); (case hg => rfl); (case hr => first | (go_simp; done) | (go_simp; rfl)); intro gb297 hg w47 hbox hb; replace HO265 := xq HO265 hb; replace HO268 := xq HO268 hb; replace HO271 := xq HO271 hb; replace HO274 := xq HO274 hb; replace HO277 := xq HO277 hb; replace HO282 := xq HO282 hb; replace HO285 := xq HO285 hb; replace HO289 := xq HO289 hb; replace HO292 := xq HO292 hb; replace HO295 := xq HO295 hb; have BK297 := Aside0.mk (hbox); have GW297 := xg HB hg; have GE297 := xg HB hg; replace HB := xp HB hb; have NB260_297 := xl BK260 hg; have NB297_260 := xh BK260 hg; replace BK260 := xk BK260 hb; have NB279_297 := xl BK279 hg; have NB297_279 := xh BK279 hg; replace BK279 := xk BK279 hb; have NB286_297 := xl BK286 hg; have NB297_286 := xh BK286 hg; replace BK286 := xk BK286 hb; clear hb hbox hg; obtain ⟨Ao48, co48, eo48⟩ := Kd.R_slice HO292.out; subst eo48; have hnb49 := NB297_260.out; have hnc49 := NB260_297.out; have hnb50 := NB297_279.out; have hnc50 := NB279_297.out; have hnb51 := NB297_286.out; have hnc51 := NB286_297.out; have hcz52_0 : w47.cell? ⟨gb297, 0, none⟩ = some (.slice none 0 0) := (blk_cell BK297.out 0).trans rfl; have hcz52_1 : w47.cell? ⟨gb297, 1, none⟩ = some (.slice none 0 0) := (blk_cell BK297.out 1).trans rfl; have hfz52_0 := blk_frozen BK297.out 0; have hfz52_1 := blk_frozen BK297.out 1; obtain ⟨Ao53, co53, eo53⟩ := Kd.R_slice HO295.out; subst eo53))
   (try simp only [Act.put, List.setIfInBounds_toArray, List.set_cons_zero, List.set_cons_succ])
   go_cut [53] (fun v53 wc => ∃ (kq : Nat) (x53_18 : Bool), v53 = .bool x53_18 ∧ Aside0 (laws_FnExactMakeMoves.j0 kq l1 t278 t287 t296 x53_18 l0_0 l0_1 t272 t275 t280 t283 t290 t293 = some true) ∧ Aside0 (kq ≤ k) ∧ Aside0 (Kd.R k41 41 wc w.heap.size (fun _ => True) (.slice Ao45 t287.length co45) t287) ∧ Aside0 (Kd.R (Kd.int .i64) 3 wc w.heap.size (fun k_ => nS k_ Ao34 t275.length co34 ∧ nS k_ Ao38 t280.length co38 ∧ nS k_ Ao42 t283.length co42 ∧ nS k_ Ao48 t290.length co48 ∧ nS k_ Ao53 t293.length co53) (.slice Ao31 t272.length co31) t272) ∧ Aside0 (Kd.R (Kd.int .i64) 3 wc w.heap.size (fun k_ => nS k_ Ao31 t272.length co31 ∧ nS k_ Ao38 t280.length co38 ∧ nS k_ Ao42 t283.length co42 ∧ nS k_ Ao48 t290.length co48 ∧ nS k_ Ao53 t293.length co53) (.slice Ao34 t275.length co34) t275) ∧ Aside0 (Kd.R (Kd.int .i64) 3 wc w.heap.size (fun k_ => nS k_ Ao31 t272.length co31 ∧ nS k_ Ao34 t275.length co34 ∧ nS k_ Ao42 t283.length co42 ∧ nS k_ Ao48 t290.length co48 ∧ nS k_ Ao53 t293.length co53) (.slice Ao38 t280.length co38) t280) ∧ Aside0 (Kd.R (Kd.int .i64) 3 wc w.heap.size (fun k_ => nS k_ Ao31 t272.length co31 ∧ nS k_ Ao34 t275.length co34 ∧ nS k_ Ao38 t280.length co38 ∧ nS k_ Ao48 t290.length co48 ∧ nS k_ Ao53 t293.length co53) (.slice Ao42 t283.length co42) t283) ∧ Aside0 (Kd.R (Kd.int .i64) 3 wc w.heap.size (fun k_ => nS k_ Ao31 t272.length co31 ∧ nS k_ Ao34 t275.length co34 ∧ nS k_ Ao38 t280.length co38 ∧ nS k_ Ao42 t283.length co42 ∧ nS k_ Ao53 t293.length co53) (.slice Ao48 t290.length co48) t290) ∧ Aside0 (Kd.R (Kd.int .i64) 3 wc w.heap.size (fun k_ => nS k_ Ao31 t272.length co31 ∧ nS k_ Ao34 t275.length co34 ∧ nS k_ Ao38 t280.length co38 ∧ nS k_ Ao42 t283.length co42 ∧ nS k_ Ao48 t290.length co48) (.slice Ao53 t293.length co53) t293) ∧ Aside0 (wc.heap[gb260]? = some (.cells #[(.slice A0_0 l0_0.length c0_0), (.slice A0_1 l0_1.length c0_1)] 24 (0, 0))) ∧ Aside0 (wc.heap[gb279]? = some (.cells #[(.slice Ao31 t272.length co31), (.slice Ao34 t275.length co34)] 26 (0, 0))) ∧ Aside0 (wc.heap[gb286]? = some (.cells #[(.slice Ao38 t280.length co38), (.slice Ao42 t283.length co42)] 26 (0, 0))) ∧ Aside0 (wc.heap[gb297]? = some (.cells #[(.slice Ao48 t290.length co48), (.slice Ao53 t293.length co53)] 26 (0, 0))) ∧ Aside0 (Below w.heap.size w wc))
   case first =>
    have H := HC19.out
    clear HC19
    replace H := Option.bind_eq_some_iff.mp H
    obtain ⟨t298, A540, H⟩ := H
    replace H : (if t298 = true then (laws_FnExactMakeMoves.j0 k l1 t278 t287 t296 (t296 != t278) l0_0 l0_1 t272 t275 t280 t283 t290 t293) else (laws_FnExactMakeMoves.j0 k l1 t278 t287 t296 true l0_0 l0_1 t272 t275 t280 t283 t290 t293)) = some true := H
    have A54 := Aside0.mk A540
    clear A540
    by_cases c55 : t298 = true
    ·subst c55
     have H1 : (laws_FnExactMakeMoves.j0 k l1 t278 t287 t296 (t296 != t278) l0_0 l0_1 t272 t275 t280 t283 t290 t293) = some true := by first | (rw [if_pos rfl] at H; exact H) | rfl
     clear H
     have H := H1
     clear H1
     have H' := Aside0.mk H
     clear H
     have hnb56 := NB297_260.out
     have hnc56 := NB260_297.out
     have hnb57 := NB297_279.out
     have hnc57 := NB279_297.out
     have hnb58 := NB297_286.out
     have hnc58 := NB286_297.out
     have hcz59_0 : w47.cell? ⟨gb297, 0, none⟩ = some (.slice none 0 0) := (blk_cell BK297.out 0).trans rfl
     have hcz59_1 : w47.cell? ⟨gb297, 1, none⟩ = some (.slice none 0 0) := (blk_cell BK297.out 1).trans rfl
     have hfz59_0 := blk_frozen BK297.out 0
     have hfz59_1 := blk_frozen BK297.out 1
     have hnb60 := NB279_260.out
     have hnc60 := NB260_279.out
     have hnb61 := NB279_286.out
     have hnc61 := NB286_279.out
     have hcz62_0 : w47.cell? ⟨gb279, 0, none⟩ = some (.slice Ao31 t272.length co31) := (blk_cell BK279.out 0).trans rfl
     have hcz62_1 : w47.cell? ⟨gb279, 1, none⟩ = some (.slice Ao34 t275.length co34) := (blk_cell BK279.out 1).trans rfl
     have hfz62_0 := blk_frozen BK279.out 0
     have hfz62_1 := blk_frozen BK279.out 1
     go_wp2_with (first | ((with_reducible refine gate_callee (f := 19) rfl ?_); refine goesL_ (some 47) rfl rfl Try.func19 (by kernel_rfl) rfl #[.agg #[.slice Ao48 t290.length co48, .slice Ao53 t293.length co53], .agg #[.slice Ao31 t272.length co31, .slice Ao34 t275.length co34]] rfl (by (try simp only [List.map_toArray, List.map_cons, List.map_nil]); first | done | rfl | (simp only [List.length_drop, List.length_take]; rfl)) ?_; (with_reducible refine (laws_eqVessels.calls k _ _ t290 _ _ t293 _ _ t272 _ _ t275 true _ ?side1 ?side2 ?side3 ?side4 ?side5 ?side6 ?side7 ?side8 A54.out).mono ?_); (case side1 => refine (Kd.R_reads' (e := 3) (base := w.heap.size) (ok := fun k_ => ((((((nS k_ Ao53 t293.length co53 ∧ nS k_ Ao26 t263.length co26) ∧ nS k_ Ao27 t266.length co27) ∧ nS k_ Ao31 t272.length co31) ∧ nS k_ Ao34 t275.length co34) ∧ nS k_ Ao38 t280.length co38) ∧ nS k_ Ao42 t283.length co42)) (n := t290.length) (c := co48) ?_).2.2; exact (by (with_reducible repeat (first | apply Kd.R_alloc | apply Kd.R_drewN | apply Kd.R_drew)); exact (Kd.R_mono (Kd.R_far (p := ⟨gb297, 1, none⟩) (Kd.R_far (p := ⟨gb297, 0, none⟩) (Kd.R_types HO292.out BK297.out (by decide)) (fun _ hk => hk.2) (.slice Ao48 t290.length co48)) (fun _ hk => hk.2) (.slice Ao53 t293.length co53)) (fun _ h_ => h_.1)))); (case side2 => exact (Kd.R_reads' HO292.out).2.1); (case side3 => refine (Kd.R_reads' (e := 3) (base := w.heap.size) (ok := fun k_ => ((((((nS k_ Ao48 t290.length co48 ∧ nS k_ Ao26 t263.length co26) ∧ nS k_ Ao27 t266.length co27) ∧ nS k_ Ao31 t272.length co31) ∧ nS k_ Ao34 t275.length co34) ∧ nS k_ Ao38 t280.length co38) ∧ nS k_ Ao42 t283.length co42)) (n := t293.length) (c := co53) ?_).2.2; exact (by (with_reducible repeat (first | apply Kd.R_alloc | apply Kd.R_drewN | apply Kd.R_drew)); exact (Kd.R_mono (Kd.R_far (p := ⟨gb297, 1, none⟩) (Kd.R_far (p := ⟨gb297, 0, none⟩) (Kd.R_types HO295.out BK297.out (by decide)) (fun _ hk => hk.2) (.slice Ao48 t290.length co48)) (fun _ hk => hk.2) (.slice Ao53 t293.length co53)) (fun _ h_ => h_.1)))); (case side4 => exact (Kd.R_reads' HO295.out).2.1); (case side5 => refine (Kd.R_reads' (e := 3) (base := w.heap.size) (ok := fun k_ => ((((((nS k_ Ao34 t275.length co34 ∧ nS k_ Ao26 t263.length co26) ∧ nS k_ Ao27 t266.length co27) ∧ nS k_ Ao38 t280.length co38) ∧ nS k_ Ao42 t283.length co42) ∧ nS k_ Ao48 t290.length co48) ∧ nS k_ Ao53 t293.length co53)) (n := t272.length) (c := co31) ?_).2.2; exact (by (with_reducible repeat (first | apply Kd.R_alloc | apply Kd.R_drewN | apply Kd.R_drew)); exact (Kd.R_mono (Kd.R_far (p := ⟨gb297, 1, none⟩) (Kd.R_far (p := ⟨gb297, 0, none⟩) (Kd.R_types HO274.out BK297.out (by decide)) (fun _ hk => hk.2) (.slice Ao48 t290.length co48)) (fun _ hk => hk.2) (.slice Ao53 t293.length co53)) (fun _ h_ => h_.1)))); (case side6 => exact (Kd.R_reads' HO274.out).2.1); (case side7 => refine (Kd.R_reads' (e := 3) (base := w.heap.size) (ok := fun k_ => ((((((nS k_ Ao31 t272.length co31 ∧ nS k_ Ao26 t263.length co26) ∧ nS k_ Ao27 t266.length co27) ∧ nS k_ Ao38 t280.length co38) ∧ nS k_ Ao42 t283.length co42) ∧ nS k_ Ao48 t290.length co48) ∧ nS k_ Ao53 t293.length co53)) (n := t275.length) (c := co34) ?_).2.2; exact (by (with_reducible repeat (first | apply Kd.R_alloc | apply Kd.R_drewN | apply Kd.R_drew)); exact (Kd.R_mono (Kd.R_far (p := ⟨gb297, 1, none⟩) (Kd.R_far (p := ⟨gb297, 0, none⟩) (Kd.R_types HO277.out BK297.out (by decide)) (fun _ hk => hk.2) (.slice Ao48 t290.length co48)) (fun _ hk => hk.2) (.slice Ao53 t293.length co53)) (fun _ h_ => h_.1)))); (case side8 => exact (Kd.R_reads' HO277.out).2.1); rintro e w63 ⟨rfl, hb⟩; refine ⟨_, rfl, ?_⟩; replace HO265 := Aside0.mk (Kd.R_below (by (with_reducible repeat (first | apply Kd.R_alloc | apply Kd.R_drewN | apply Kd.R_drew)); exact (Kd.R_mono (Kd.R_far (p := ⟨gb297, 1, none⟩) (Kd.R_far (p := ⟨gb297, 0, none⟩) (Kd.R_types HO265.out BK297.out (by decide)) (fun _ hk => hk.2) (.slice Ao48 t290.length co48)) (fun _ hk => hk.2) (.slice Ao53 t293.length co53)) (fun _ h_ => h_.1))) hb); replace HO268 := Aside0.mk (Kd.R_below (by (with_reducible repeat (first | apply Kd.R_alloc | apply Kd.R_drewN | apply Kd.R_drew)); exact (Kd.R_mono (Kd.R_far (p := ⟨gb297, 1, none⟩) (Kd.R_far (p := ⟨gb297, 0, none⟩) (Kd.R_types HO268.out BK297.out (by decide)) (fun _ hk => hk.2) (.slice Ao48 t290.length co48)) (fun _ hk => hk.2) (.slice Ao53 t293.length co53)) (fun _ h_ => h_.1))) hb); replace HO271 := Aside0.mk (Kd.R_below (by (with_reducible repeat (first | apply Kd.R_alloc | apply Kd.R_drewN | apply Kd.R_drew)); exact (Kd.R_mono (Kd.R_far (p := ⟨gb297, 1, none⟩) (Kd.R_far (p := ⟨gb297, 0, none⟩) (Kd.R_types HO271.out BK297.out (by decide)) (fun _ hk => hk.2) (.slice Ao48 t290.length co48)) (fun _ hk => hk.2) (.slice Ao53 t293.length co53)) (fun _ h_ => h_.1))) hb); replace HO274 := Aside0.mk (Kd.R_below (by (with_reducible repeat (first | apply Kd.R_alloc | apply Kd.R_drewN | apply Kd.R_drew)); exact (Kd.R_mono (Kd.R_far (p := ⟨gb297, 1, none⟩) (Kd.R_far (p := ⟨gb297, 0, none⟩) (Kd.R_types HO274.out BK297.out (by decide)) (fun _ hk => hk.2) (.slice Ao48 t290.length co48)) (fun _ hk => hk.2) (.slice Ao53 t293.length co53)) (fun _ h_ => h_.1))) hb); replace HO277 := Aside0.mk (Kd.R_below (by (with_reducible repeat (first | apply Kd.R_alloc | apply Kd.R_drewN | apply Kd.R_drew)); exact (Kd.R_mono (Kd.R_far (p := ⟨gb297, 1, none⟩) (Kd.R_far (p := ⟨gb297, 0, none⟩) (Kd.R_types HO277.out BK297.out (by decide)) (fun _ hk => hk.2) (.slice Ao48 t290.length co48)) (fun _ hk => hk.2) (.slice Ao53 t293.length co53)) (fun _ h_ => h_.1))) hb); replace HO282 := Aside0.mk (Kd.R_below (by (with_reducible repeat (first | apply Kd.R_alloc | apply Kd.R_drewN | apply Kd.R_drew)); exact (Kd.R_mono (Kd.R_far (p := ⟨gb297, 1, none⟩) (Kd.R_far (p := ⟨gb297, 0, none⟩) (Kd.R_types HO282.out BK297.out (by decide)) (fun _ hk => hk.2) (.slice Ao48 t290.length co48)) (fun _ hk => hk.2) (.slice Ao53 t293.length co53)) (fun _ h_ => h_.1))) hb); replace HO285 := Aside0.mk (Kd.R_below (by (with_reducible repeat (first | apply Kd.R_alloc | apply Kd.R_drewN | apply Kd.R_drew)); exact (Kd.R_mono (Kd.R_far (p := ⟨gb297, 1, none⟩) (Kd.R_far (p := ⟨gb297, 0, none⟩) (Kd.R_types HO285.out BK297.out (by decide)) (fun _ hk => hk.2) (.slice Ao48 t290.length co48)) (fun _ hk => hk.2) (.slice Ao53 t293.length co53)) (fun _ h_ => h_.1))) hb); replace HO289 := Aside0.mk (Kd.R_below (by (with_reducible repeat (first | apply Kd.R_alloc | apply Kd.R_drewN | apply Kd.R_drew)); exact (Kd.R_mono (Kd.R_far (p := ⟨gb297, 1, none⟩) (Kd.R_far (p := ⟨gb297, 0, none⟩) (Kd.R_types HO289.out BK297.out (by decide)) (fun _ hk => hk.2) (.slice Ao48 t290.length co48)) (fun _ hk => hk.2) (.slice Ao53 t293.length co53)) (fun _ h_ => h_.1))) hb); replace HO292 := Aside0.mk (Kd.R_below (by (with_reducible repeat (first | apply Kd.R_alloc | apply Kd.R_drewN | apply Kd.R_drew)); exact (Kd.R_mono (Kd.R_far (p := ⟨gb297, 1, none⟩) (Kd.R_far (p := ⟨gb297, 0, none⟩) (Kd.R_types HO292.out BK297.out (by decide)) (fun _ hk => hk.2) (.slice Ao48 t290.length co48)) (fun _ hk => hk.2) (.slice Ao53 t293.length co53)) (fun _ h_ => h_.1))) hb); replace HO295 := Aside0.mk (Kd.R_below (by (with_reducible repeat (first | apply Kd.R_alloc | apply Kd.R_drewN | apply Kd.R_drew)); exact (Kd.R_mono (Kd.R_far (p := ⟨gb297, 1, none⟩) (Kd.R_far (p := ⟨gb297, 0, none⟩) (Kd.R_types HO295.out BK297.out (by decide)) (fun _ hk => hk.2) (.slice Ao48 t290.length co48)) (fun _ hk => hk.2) (.slice Ao53 t293.length co53)) (fun _ h_ => h_.1))) hb); replace BK260 := Aside0.mk (blk_below (g := gb260) (o := .cells #[.slice A0_0 l0_0.length c0_0, .slice A0_1 l0_1.length c0_1] 24 (0, 0)) (xff NB260_297.out NB260_297.out BK260.out) hb); replace BK279 := Aside0.mk (blk_below (g := gb279) (o := .cells #[.slice Ao31 t272.length co31, .slice Ao34 t275.length co34] 26 (0, 0)) (xff NB279_297.out NB279_297.out BK279.out) hb); replace BK286 := Aside0.mk (blk_below (g := gb286) (o := .cells #[.slice Ao38 t280.length co38, .slice Ao42 t283.length co42] 26 (0, 0)) (xff NB286_297.out NB286_297.out BK286.out) hb); replace BK297 := Aside0.mk (blk_below (g := gb297) (o := .cells #[.slice Ao48 t290.length co48, .slice Ao53 t293.length co53] 26 (0, 0)) (by (with_reducible repeat (first | refine blk_drewN ?_ _ | refine blk_drew ?_ | refine blk_alloc ?_ _)); refine blk_put (cs := #[.slice Ao48 t290.length co48, .slice none 0 0]) ?_ 1 _ rfl; (with_reducible repeat (first | refine blk_drewN ?_ _ | refine blk_drew ?_ | refine blk_alloc ?_ _)); refine blk_put (cs := #[.slice none 0 0, .slice none 0 0]) ?_ 0 _ rfl; (with_reducible repeat (first | refine blk_drewN ?_ _ | refine blk_drew ?_ | refine blk_alloc ?_ _)); exact BK297.out) hb); replace HB := xp HB hb; (try clear hb); (try clear hb2); (try clear hk); (try clear hi)))
     go_meet
     case rel => exact ⟨_, ((t296 != t278)), (by first | rfl | (simp; done) | (simp [*]; done)), H', ⟨by first | omega | exact Nat.le_refl _⟩, ⟨xm HO289 (fun _ hk => trivial)⟩, ⟨xm HO274 (fun _ hk => ⟨hk.1.1.1.1.1.1, ⟨hk.1.1.1.2, ⟨hk.1.1.2, ⟨hk.1.2, hk.2⟩⟩⟩⟩)⟩, ⟨xm HO277 (fun _ hk => ⟨hk.1.1.1.1.1.1, ⟨hk.1.1.1.2, ⟨hk.1.1.2, ⟨hk.1.2, hk.2⟩⟩⟩⟩)⟩, ⟨xm HO282 (fun _ hk => ⟨hk.1.1.1.2, ⟨hk.1.1.2, ⟨hk.1.1.1.1.1.1, ⟨hk.1.2, hk.2⟩⟩⟩⟩)⟩, ⟨xm HO285 (fun _ hk => ⟨hk.1.1.1.2, ⟨hk.1.1.2, ⟨hk.1.1.1.1.1.1, ⟨hk.1.2, hk.2⟩⟩⟩⟩)⟩, ⟨xm HO292 (fun _ hk => ⟨hk.1.1.1.2, ⟨hk.1.1.2, ⟨hk.1.2, ⟨hk.2, hk.1.1.1.1.1.1⟩⟩⟩⟩)⟩, ⟨xm HO295 (fun _ hk => ⟨hk.1.1.1.2, ⟨hk.1.1.2, ⟨hk.1.2, ⟨hk.2, hk.1.1.1.1.1.1⟩⟩⟩⟩)⟩, ⟨xb BK260.out⟩, ⟨xb BK279.out⟩, ⟨xb BK286.out⟩, ⟨xb BK297.out⟩, ⟨xs HB.out⟩⟩
    ·replace c55 := Bool.eq_false_iff.mpr c55
     subst c55
     have H1 : (laws_FnExactMakeMoves.j0 k l1 t278 t287 t296 true l0_0 l0_1 t272 t275 t280 t283 t290 t293) = some true := by first | (rw [if_neg (show ¬ (false = true) by decide)] at H; exact H) | rfl
     clear H
     have H := H1
     clear H1
     have H' := Aside0.mk H
     clear H
     have hnb64 := NB297_260.out
     have hnc64 := NB260_297.out
     have hnb65 := NB297_279.out
     have hnc65 := NB279_297.out
     have hnb66 := NB297_286.out
     have hnc66 := NB286_297.out
     have hcz67_0 : w47.cell? ⟨gb297, 0, none⟩ = some (.slice none 0 0) := (blk_cell BK297.out 0).trans rfl
     have hcz67_1 : w47.cell? ⟨gb297, 1, none⟩ = some (.slice none 0 0) := (blk_cell BK297.out 1).trans rfl
     have hfz67_0 := blk_frozen BK297.out 0
     have hfz67_1 := blk_frozen BK297.out 1
     have hnb68 := NB279_260.out
     have hnc68 := NB260_279.out
     have hnb69 := NB279_286.out
     have hnc69 := NB286_279.out
     have hcz70_0 : w47.cell? ⟨gb279, 0, none⟩ = some (.slice Ao31 t272.length co31) := (blk_cell BK279.out 0).trans rfl
     have hcz70_1 : w47.cell? ⟨gb279, 1, none⟩ = some (.slice Ao34 t275.length co34) := (blk_cell BK279.out 1).trans rfl
     have hfz70_0 := blk_frozen BK279.out 0
     have hfz70_1 := blk_frozen BK279.out 1
     go_wp2_with (first | ((with_reducible refine gate_callee (f := 19) rfl ?_); refine goesL_ (some 47) rfl rfl Try.func19 (by kernel_rfl) rfl #[.agg #[.slice Ao48 t290.length co48, .slice Ao53 t293.length co53], .agg #[.slice Ao31 t272.length co31, .slice Ao34 t275.length co34]] rfl (by (try simp only [List.map_toArray, List.map_cons, List.map_nil]); first | done | rfl | (simp only [List.length_drop, List.length_take]; rfl)) ?_; (with_reducible refine (laws_eqVessels.calls k _ _ t290 _ _ t293 _ _ t272 _ _ t275 false _ ?side1 ?side2 ?side3 ?side4 ?side5 ?side6 ?side7 ?side8 A54.out).mono ?_); (case side1 => refine (Kd.R_reads' (e := 3) (base := w.heap.size) (ok := fun k_ => ((((((nS k_ Ao53 t293.length co53 ∧ nS k_ Ao26 t263.length co26) ∧ nS k_ Ao27 t266.length co27) ∧ nS k_ Ao31 t272.length co31) ∧ nS k_ Ao34 t275.length co34) ∧ nS k_ Ao38 t280.length co38) ∧ nS k_ Ao42 t283.length co42)) (n := t290.length) (c := co48) ?_).2.2; exact (by (with_reducible repeat (first | apply Kd.R_alloc | apply Kd.R_drewN | apply Kd.R_drew)); exact (Kd.R_mono (Kd.R_far (p := ⟨gb297, 1, none⟩) (Kd.R_far (p := ⟨gb297, 0, none⟩) (Kd.R_types HO292.out BK297.out (by decide)) (fun _ hk => hk.2) (.slice Ao48 t290.length co48)) (fun _ hk => hk.2) (.slice Ao53 t293.length co53)) (fun _ h_ => h_.1)))); (case side2 => exact (Kd.R_reads' HO292.out).2.1); (case side3 => refine (Kd.R_reads' (e := 3) (base := w.heap.size) (ok := fun k_ => ((((((nS k_ Ao48 t290.length co48 ∧ nS k_ Ao26 t263.length co26) ∧ nS k_ Ao27 t266.length co27) ∧ nS k_ Ao31 t272.length co31) ∧ nS k_ Ao34 t275.length co34) ∧ nS k_ Ao38 t280.length co38) ∧ nS k_ Ao42 t283.length co42)) (n := t293.length) (c := co53) ?_).2.2; exact (by (with_reducible repeat (first | apply Kd.R_alloc | apply Kd.R_drewN | apply Kd.R_drew)); exact (Kd.R_mono (Kd.R_far (p := ⟨gb297, 1, none⟩) (Kd.R_far (p := ⟨gb297, 0, none⟩) (Kd.R_types HO295.out BK297.out (by decide)) (fun _ hk => hk.2) (.slice Ao48 t290.length co48)) (fun _ hk => hk.2) (.slice Ao53 t293.length co53)) (fun _ h_ => h_.1)))); (case side4 => exact (Kd.R_reads' HO295.out).2.1); (case side5 => refine (Kd.R_reads' (e := 3) (base := w.heap.size) (ok := fun k_ => ((((((nS k_ Ao34 t275.length co34 ∧ nS k_ Ao26 t263.length co26) ∧ nS k_ Ao27 t266.length co27) ∧ nS k_ Ao38 t280.length co38) ∧ nS k_ Ao42 t283.length co42) ∧ nS k_ Ao48 t290.length co48) ∧ nS k_ Ao53 t293.length co53)) (n := t272.length) (c := co31) ?_).2.2; exact (by (with_reducible repeat (first | apply Kd.R_alloc | apply Kd.R_drewN | apply Kd.R_drew)); exact (Kd.R_mono (Kd.R_far (p := ⟨gb297, 1, none⟩) (Kd.R_far (p := ⟨gb297, 0, none⟩) (Kd.R_types HO274.out BK297.out (by decide)) (fun _ hk => hk.2) (.slice Ao48 t290.length co48)) (fun _ hk => hk.2) (.slice Ao53 t293.length co53)) (fun _ h_ => h_.1)))); (case side6 => exact (Kd.R_reads' HO274.out).2.1); (case side7 => refine (Kd.R_reads' (e := 3) (base := w.heap.size) (ok := fun k_ => ((((((nS k_ Ao31 t272.length co31 ∧ nS k_ Ao26 t263.length co26) ∧ nS k_ Ao27 t266.length co27) ∧ nS k_ Ao38 t280.length co38) ∧ nS k_ Ao42 t283.length co42) ∧ nS k_ Ao48 t290.length co48) ∧ nS k_ Ao53 t293.length co53)) (n := t275.length) (c := co34) ?_).2.2; exact (by (with_reducible repeat (first | apply Kd.R_alloc | apply Kd.R_drewN | apply Kd.R_drew)); exact (Kd.R_mono (Kd.R_far (p := ⟨gb297, 1, none⟩) (Kd.R_far (p := ⟨gb297, 0, none⟩) (Kd.R_types HO277.out BK297.out (by decide)) (fun _ hk => hk.2) (.slice Ao48 t290.length co48)) (fun _ hk => hk.2) (.slice Ao53 t293.length co53)) (fun _ h_ => h_.1)))); (case side8 => exact (Kd.R_reads' HO277.out).2.1); rintro e w71 ⟨rfl, hb⟩; refine ⟨_, rfl, ?_⟩; replace HO265 := Aside0.mk (Kd.R_below (by (with_reducible repeat (first | apply Kd.R_alloc | apply Kd.R_drewN | apply Kd.R_drew)); exact (Kd.R_mono (Kd.R_far (p := ⟨gb297, 1, none⟩) (Kd.R_far (p := ⟨gb297, 0, none⟩) (Kd.R_types HO265.out BK297.out (by decide)) (fun _ hk => hk.2) (.slice Ao48 t290.length co48)) (fun _ hk => hk.2) (.slice Ao53 t293.length co53)) (fun _ h_ => h_.1))) hb); replace HO268 := Aside0.mk (Kd.R_below (by (with_reducible repeat (first | apply Kd.R_alloc | apply Kd.R_drewN | apply Kd.R_drew)); exact (Kd.R_mono (Kd.R_far (p := ⟨gb297, 1, none⟩) (Kd.R_far (p := ⟨gb297, 0, none⟩) (Kd.R_types HO268.out BK297.out (by decide)) (fun _ hk => hk.2) (.slice Ao48 t290.length co48)) (fun _ hk => hk.2) (.slice Ao53 t293.length co53)) (fun _ h_ => h_.1))) hb); replace HO271 := Aside0.mk (Kd.R_below (by (with_reducible repeat (first | apply Kd.R_alloc | apply Kd.R_drewN | apply Kd.R_drew)); exact (Kd.R_mono (Kd.R_far (p := ⟨gb297, 1, none⟩) (Kd.R_far (p := ⟨gb297, 0, none⟩) (Kd.R_types HO271.out BK297.out (by decide)) (fun _ hk => hk.2) (.slice Ao48 t290.length co48)) (fun _ hk => hk.2) (.slice Ao53 t293.length co53)) (fun _ h_ => h_.1))) hb); replace HO274 := Aside0.mk (Kd.R_below (by (with_reducible repeat (first | apply Kd.R_alloc | apply Kd.R_drewN | apply Kd.R_drew)); exact (Kd.R_mono (Kd.R_far (p := ⟨gb297, 1, none⟩) (Kd.R_far (p := ⟨gb297, 0, none⟩) (Kd.R_types HO274.out BK297.out (by decide)) (fun _ hk => hk.2) (.slice Ao48 t290.length co48)) (fun _ hk => hk.2) (.slice Ao53 t293.length co53)) (fun _ h_ => h_.1))) hb); replace HO277 := Aside0.mk (Kd.R_below (by (with_reducible repeat (first | apply Kd.R_alloc | apply Kd.R_drewN | apply Kd.R_drew)); exact (Kd.R_mono (Kd.R_far (p := ⟨gb297, 1, none⟩) (Kd.R_far (p := ⟨gb297, 0, none⟩) (Kd.R_types HO277.out BK297.out (by decide)) (fun _ hk => hk.2) (.slice Ao48 t290.length co48)) (fun _ hk => hk.2) (.slice Ao53 t293.length co53)) (fun _ h_ => h_.1))) hb); replace HO282 := Aside0.mk (Kd.R_below (by (with_reducible repeat (first | apply Kd.R_alloc | apply Kd.R_drewN | apply Kd.R_drew)); exact (Kd.R_mono (Kd.R_far (p := ⟨gb297, 1, none⟩) (Kd.R_far (p := ⟨gb297, 0, none⟩) (Kd.R_types HO282.out BK297.out (by decide)) (fun _ hk => hk.2) (.slice Ao48 t290.length co48)) (fun _ hk => hk.2) (.slice Ao53 t293.length co53)) (fun _ h_ => h_.1))) hb); replace HO285 := Aside0.mk (Kd.R_below (by (with_reducible repeat (first | apply Kd.R_alloc | apply Kd.R_drewN | apply Kd.R_drew)); exact (Kd.R_mono (Kd.R_far (p := ⟨gb297, 1, none⟩) (Kd.R_far (p := ⟨gb297, 0, none⟩) (Kd.R_types HO285.out BK297.out (by decide)) (fun _ hk => hk.2) (.slice Ao48 t290.length co48)) (fun _ hk => hk.2) (.slice Ao53 t293.length co53)) (fun _ h_ => h_.1))) hb); replace HO289 := Aside0.mk (Kd.R_below (by (with_reducible repeat (first | apply Kd.R_alloc | apply Kd.R_drewN | apply Kd.R_drew)); exact (Kd.R_mono (Kd.R_far (p := ⟨gb297, 1, none⟩) (Kd.R_far (p := ⟨gb297, 0, none⟩) (Kd.R_types HO289.out BK297.out (by decide)) (fun _ hk => hk.2) (.slice Ao48 t290.length co48)) (fun _ hk => hk.2) (.slice Ao53 t293.length co53)) (fun _ h_ => h_.1))) hb); replace HO292 := Aside0.mk (Kd.R_below (by (with_reducible repeat (first | apply Kd.R_alloc | apply Kd.R_drewN | apply Kd.R_drew)); exact (Kd.R_mono (Kd.R_far (p := ⟨gb297, 1, none⟩) (Kd.R_far (p := ⟨gb297, 0, none⟩) (Kd.R_types HO292.out BK297.out (by decide)) (fun _ hk => hk.2) (.slice Ao48 t290.length co48)) (fun _ hk => hk.2) (.slice Ao53 t293.length co53)) (fun _ h_ => h_.1))) hb); replace HO295 := Aside0.mk (Kd.R_below (by (with_reducible repeat (first | apply Kd.R_alloc | apply Kd.R_drewN | apply Kd.R_drew)); exact (Kd.R_mono (Kd.R_far (p := ⟨gb297, 1, none⟩) (Kd.R_far (p := ⟨gb297, 0, none⟩) (Kd.R_types HO295.out BK297.out (by decide)) (fun _ hk => hk.2) (.slice Ao48 t290.length co48)) (fun _ hk => hk.2) (.slice Ao53 t293.length co53)) (fun _ h_ => h_.1))) hb); replace BK260 := Aside0.mk (blk_below (g := gb260) (o := .cells #[.slice A0_0 l0_0.length c0_0, .slice A0_1 l0_1.length c0_1] 24 (0, 0)) (xff NB260_297.out NB260_297.out BK260.out) hb); replace BK279 := Aside0.mk (blk_below (g := gb279) (o := .cells #[.slice Ao31 t272.length co31, .slice Ao34 t275.length co34] 26 (0, 0)) (xff NB279_297.out NB279_297.out BK279.out) hb); replace BK286 := Aside0.mk (blk_below (g := gb286) (o := .cells #[.slice Ao38 t280.length co38, .slice Ao42 t283.length co42] 26 (0, 0)) (xff NB286_297.out NB286_297.out BK286.out) hb); replace BK297 := Aside0.mk (blk_below (g := gb297) (o := .cells #[.slice Ao48 t290.length co48, .slice Ao53 t293.length co53] 26 (0, 0)) (by (with_reducible repeat (first | refine blk_drewN ?_ _ | refine blk_drew ?_ | refine blk_alloc ?_ _)); refine blk_put (cs := #[.slice Ao48 t290.length co48, .slice none 0 0]) ?_ 1 _ rfl; (with_reducible repeat (first | refine blk_drewN ?_ _ | refine blk_drew ?_ | refine blk_alloc ?_ _)); refine blk_put (cs := #[.slice none 0 0, .slice none 0 0]) ?_ 0 _ rfl; (with_reducible repeat (first | refine blk_drewN ?_ _ | refine blk_drew ?_ | refine blk_alloc ?_ _)); exact BK297.out) hb); replace HB := xp HB hb; (try clear hb); (try clear hb2); (try clear hk); (try clear hi)))
     go_meet
     case rel => exact ⟨_, (true), (by first | rfl | (simp; done) | (simp [*]; done)), H', ⟨by first | omega | exact Nat.le_refl _⟩, ⟨xm HO289 (fun _ hk => trivial)⟩, ⟨xm HO274 (fun _ hk => ⟨hk.1.1.1.1.1.1, ⟨hk.1.1.1.2, ⟨hk.1.1.2, ⟨hk.1.2, hk.2⟩⟩⟩⟩)⟩, ⟨xm HO277 (fun _ hk => ⟨hk.1.1.1.1.1.1, ⟨hk.1.1.1.2, ⟨hk.1.1.2, ⟨hk.1.2, hk.2⟩⟩⟩⟩)⟩, ⟨xm HO282 (fun _ hk => ⟨hk.1.1.1.2, ⟨hk.1.1.2, ⟨hk.1.1.1.1.1.1, ⟨hk.1.2, hk.2⟩⟩⟩⟩)⟩, ⟨xm HO285 (fun _ hk => ⟨hk.1.1.1.2, ⟨hk.1.1.2, ⟨hk.1.1.1.1.1.1, ⟨hk.1.2, hk.2⟩⟩⟩⟩)⟩, ⟨xm HO292 (fun _ hk => ⟨hk.1.1.1.2, ⟨hk.1.1.2, ⟨hk.1.2, ⟨hk.2, hk.1.1.1.1.1.1⟩⟩⟩⟩)⟩, ⟨xm HO295 (fun _ hk => ⟨hk.1.1.1.2, ⟨hk.1.1.2, ⟨hk.1.2, ⟨hk.2, hk.1.1.1.1.1.1⟩⟩⟩⟩)⟩, ⟨xb BK260.out⟩, ⟨xb BK279.out⟩, ⟨xb BK286.out⟩, ⟨xb BK297.out⟩, ⟨xs HB.out⟩⟩
   case rest =>
    clear HC19
    try clear c1
    try clear c2
    try clear p2
    try clear c3
    try clear c4
    try clear c4b0
    try clear c5
    try clear c6
    try clear c8
    try clear c9
    try clear c9b0
    try clear c15
    try clear c17
    try clear c19
    try clear c29
    try clear c31
    try clear c32
    try clear c34
    try clear c35
    try clear c39
    try clear c40
    try clear c49
    try clear c50
    try clear c51
    try clear c55
    try clear c56
    try clear c57
    try clear c58
    try clear c60
    try clear c61
    try clear c64
    try clear c65
    try clear c66
    try clear c68
    try clear c69
    try clear hcz11_0
    try clear hcz11_1
    try clear hcz21_0
    try clear hcz21_1
    try clear hcz23_0
    try clear hcz23_1
    try clear hcz33_0
    try clear hcz33_1
    try clear hcz35_0
    try clear hcz35_1
    try clear hcz41_0
    try clear hcz41_1
    try clear hcz44_0
    try clear hcz44_1
    try clear hcz52_0
    try clear hcz52_1
    try clear hcz59_0
    try clear hcz59_1
    try clear hcz62_0
    try clear hcz62_1
    try clear hcz67_0
    try clear hcz67_1
    try clear hcz6_0
    try clear hcz6_1
    try clear hcz70_0
    try clear hcz70_1
    try clear hfz11_0
    try clear hfz11_1
    try clear hfz21_0
    try clear hfz21_1
    try clear hfz23_0
    try clear hfz23_1
    try clear hfz33_0
    try clear hfz33_1
    try clear hfz35_0
    try clear hfz35_1
    try clear hfz41_0
    try clear hfz41_1
    try clear hfz44_0
    try clear hfz44_1
    try clear hfz52_0
    try clear hfz52_1
    try clear hfz59_0
    try clear hfz59_1
    try clear hfz62_0
    try clear hfz62_1
    try clear hfz67_0
    try clear hfz67_1
    try clear hfz6_0
    try clear hfz6_1
    try clear hfz70_0
    try clear hfz70_1
    obtain ⟨kq, x53_18, rfl, HA, HJ18, HO_9, HO_280000, HO_280001, HO_287000, HO_287001, HO_298000, HO_298001, BK260, BK279, BK286, BK297, HB⟩ := hcut
    cases kq with
    | zero => exact absurd HA.out (by simp [laws_FnExactMakeMoves.j0])
    | succ kj18 =>
     have H := HA.out
     clear HA
     simp only [laws_FnExactMakeMoves.j0] at H
     by_cases c72 : x53_18 = true
     ·subst c72
      have H1 : (some false) = some true := by first | (rw [if_pos rfl] at H; exact H) | rfl
      clear H
      have H := H1
      clear H1
      exact absurd H (by simp)
     ·replace c72 := Bool.eq_false_iff.mpr c72
      subst c72
      have H1 : ((laws_toVessels.f kj18 l0_0 l0_1).bind fun bt299 => ((laws_eqVessels.f kj18 t280 t283 bt299.1 bt299.2).bind fun t305 => (if t305 = true then ((laws_toMoveS.f kj18 l1).bind fun t306 => ((laws_eqMoveS.f kj18 t287 t306).bind fun t309 => (if t309 = true then ((laws_markVessels.f kj18 t280 t283 1).bind fun bt310 => ((laws_markMoveS.f kj18 t287 bt310.1).bind fun bt313 => (if bt313.1 < 0 then (laws_FnExactMakeMoves.j1 kj18 l1 t278 true l0_0 l0_1 t272 t275 t290 t293) else ((laws_eqVessels.f kj18 t290 t293 t272 t275).bind fun t315 => (if t315 = true then (laws_FnExactMakeMoves.j1 kj18 l1 t278 (t296 != t278) l0_0 l0_1 t272 t275 t290 t293) else (laws_FnExactMakeMoves.j1 kj18 l1 t278 true l0_0 l0_1 t272 t275 t290 t293)))))) else (some false)))) else (some false)))) = some true := by first | (rw [if_neg (show ¬ (false = true) by decide)] at H; exact H) | rfl
      clear H
      have H := H1
      clear H1
      replace H := Option.bind_eq_some_iff.mp H
      obtain ⟨⟨t299, t302⟩, A730, H⟩ := H
      replace H : ((laws_eqVessels.f kj18 t280 t283 t299 t302).bind fun t305 => (if t305 = true then ((laws_toMoveS.f kj18 l1).bind fun t306 => ((laws_eqMoveS.f kj18 t287 t306).bind fun t309 => (if t309 = true then ((laws_markVessels.f kj18 t280 t283 1).bind fun bt310 => ((laws_markMoveS.f kj18 t287 bt310.1).bind fun bt313 => (if bt313.1 < 0 then (laws_FnExactMakeMoves.j1 kj18 l1 t278 true l0_0 l0_1 t272 t275 t290 t293) else ((laws_eqVessels.f kj18 t290 t293 t272 t275).bind fun t315 => (if t315 = true then (laws_FnExactMakeMoves.j1 kj18 l1 t278 (t296 != t278) l0_0 l0_1 t272 t275 t290 t293) else (laws_FnExactMakeMoves.j1 kj18 l1 t278 true l0_0 l0_1 t272 t275 t290 t293)))))) else (some false)))) else (some false))) = some true := H
      have A73 := Aside0.mk A730
      clear A730
      replace H := Option.bind_eq_some_iff.mp H
      obtain ⟨t305, A740, H⟩ := H
      replace H : (if t305 = true then ((laws_toMoveS.f kj18 l1).bind fun t306 => ((laws_eqMoveS.f kj18 t287 t306).bind fun t309 => (if t309 = true then ((laws_markVessels.f kj18 t280 t283 1).bind fun bt310 => ((laws_markMoveS.f kj18 t287 bt310.1).bind fun bt313 => (if bt313.1 < 0 then (laws_FnExactMakeMoves.j1 kj18 l1 t278 true l0_0 l0_1 t272 t275 t290 t293) else ((laws_eqVessels.f kj18 t290 t293 t272 t275).bind fun t315 => (if t315 = true then (laws_FnExactMakeMoves.j1 kj18 l1 t278 (t296 != t278) l0_0 l0_1 t272 t275 t290 t293) else (laws_FnExactMakeMoves.j1 kj18 l1 t278 true l0_0 l0_1 t272 t275 t290 t293)))))) else (some false)))) else (some false)) = some true := H
      have A74 := Aside0.mk A740
      clear A740
      by_cases c75 : t305 = true
      ·subst c75
       have H1 : ((laws_toMoveS.f kj18 l1).bind fun t306 => ((laws_eqMoveS.f kj18 t287 t306).bind fun t309 => (if t309 = true then ((laws_markVessels.f kj18 t280 t283 1).bind fun bt310 => ((laws_markMoveS.f kj18 t287 bt310.1).bind fun bt313 => (if bt313.1 < 0 then (laws_FnExactMakeMoves.j1 kj18 l1 t278 true l0_0 l0_1 t272 t275 t290 t293) else ((laws_eqVessels.f kj18 t290 t293 t272 t275).bind fun t315 => (if t315 = true then (laws_FnExactMakeMoves.j1 kj18 l1 t278 (t296 != t278) l0_0 l0_1 t272 t275 t290 t293) else (laws_FnExactMakeMoves.j1 kj18 l1 t278 true l0_0 l0_1 t272 t275 t290 t293)))))) else (some false)))) = some true := by first | (rw [if_pos rfl] at H; exact H) | rfl
       clear H
       have H := H1
       clear H1
       replace H := Option.bind_eq_some_iff.mp H
       obtain ⟨t306, A760, H⟩ := H
       replace H : ((laws_eqMoveS.f kj18 t287 t306).bind fun t309 => (if t309 = true then ((laws_markVessels.f kj18 t280 t283 1).bind fun bt310 => ((laws_markMoveS.f kj18 t287 bt310.1).bind fun bt313 => (if bt313.1 < 0 then (laws_FnExactMakeMoves.j1 kj18 l1 t278 true l0_0 l0_1 t272 t275 t290 t293) else ((laws_eqVessels.f kj18 t290 t293 t272 t275).bind fun t315 => (if t315 = true then (laws_FnExactMakeMoves.j1 kj18 l1 t278 (t296 != t278) l0_0 l0_1 t272 t275 t290 t293) else (laws_FnExactMakeMoves.j1 kj18 l1 t278 true l0_0 l0_1 t272 t275 t290 t293)))))) else (some false))) = some true := H
       have A76 := Aside0.mk A760
       clear A760
       replace H := Option.bind_eq_some_iff.mp H
       obtain ⟨t309, A770, H⟩ := H
       replace H : (if t309 = true then ((laws_markVessels.f kj18 t280 t283 1).bind fun bt310 => ((laws_markMoveS.f kj18 t287 bt310.1).bind fun bt313 => (if bt313.1 < 0 then (laws_FnExactMakeMoves.j1 kj18 l1 t278 true l0_0 l0_1 t272 t275 t290 t293) else ((laws_eqVessels.f kj18 t290 t293 t272 t275).bind fun t315 => (if t315 = true then (laws_FnExactMakeMoves.j1 kj18 l1 t278 (t296 != t278) l0_0 l0_1 t272 t275 t290 t293) else (laws_FnExactMakeMoves.j1 kj18 l1 t278 true l0_0 l0_1 t272 t275 t290 t293)))))) else (some false)) = some true := H
       have A77 := Aside0.mk A770
       clear A770
       by_cases c78 : t309 = true
       ·subst c78
        have H1 : ((laws_markVessels.f kj18 t280 t283 1).bind fun bt310 => ((laws_markMoveS.f kj18 t287 bt310.1).bind fun bt313 => (if bt313.1 < 0 then (laws_FnExactMakeMoves.j1 kj18 l1 t278 true l0_0 l0_1 t272 t275 t290 t293) else ((laws_eqVessels.f kj18 t290 t293 t272 t275).bind fun t315 => (if t315 = true then (laws_FnExactMakeMoves.j1 kj18 l1 t278 (t296 != t278) l0_0 l0_1 t272 t275 t290 t293) else (laws_FnExactMakeMoves.j1 kj18 l1 t278 true l0_0 l0_1 t272 t275 t290 t293)))))) = some true := by first | (rw [if_pos rfl] at H; exact H) | rfl
        clear H
        have H := H1
        clear H1
        replace H := Option.bind_eq_some_iff.mp H
        obtain ⟨⟨t310, t311, t312⟩, A790, H⟩ := H
        replace H : ((laws_markMoveS.f kj18 t287 t310).bind fun bt313 => (if bt313.1 < 0 then (laws_FnExactMakeMoves.j1 kj18 l1 t278 true l0_0 l0_1 t272 t275 t290 t293) else ((laws_eqVessels.f kj18 t290 t293 t272 t275).bind fun t315 => (if t315 = true then (laws_FnExactMakeMoves.j1 kj18 l1 t278 (t296 != t278) l0_0 l0_1 t272 t275 t290 t293) else (laws_FnExactMakeMoves.j1 kj18 l1 t278 true l0_0 l0_1 t272 t275 t290 t293))))) = some true := H
        have A79 := Aside0.mk A790
        clear A790
        replace H := Option.bind_eq_some_iff.mp H
        obtain ⟨⟨t313, t314⟩, A800, H⟩ := H
        replace H : (if t313 < 0 then (laws_FnExactMakeMoves.j1 kj18 l1 t278 true l0_0 l0_1 t272 t275 t290 t293) else ((laws_eqVessels.f kj18 t290 t293 t272 t275).bind fun t315 => (if t315 = true then (laws_FnExactMakeMoves.j1 kj18 l1 t278 (t296 != t278) l0_0 l0_1 t272 t275 t290 t293) else (laws_FnExactMakeMoves.j1 kj18 l1 t278 true l0_0 l0_1 t272 t275 t290 t293)))) = some true := H
        have A80 := Aside0.mk A800
        clear A800
        have HC81 := Aside0.mk H
        clear H
        try go_wp2
        replace HO_9 := xw HO_9
        replace HO_280000 := xw HO_280000
        replace HO_280001 := xw HO_280001
        replace HO_287000 := xw HO_287000
        replace HO_287001 := xw HO_287001
        replace HO_298000 := xw HO_298000
        replace HO_298001 := xw HO_298001
        replace BK260 := xv BK260
        replace BK279 := xv BK279
        replace BK286 := xv BK286
        replace BK297 := xv BK297
        replace HB := Aside0.mk (below_drew1 HB.out)
        refine start_ (n := 5) (S := fun w' => w'.cell? ⟨gb286, 0, none⟩ = some (.slice Ao38 t280.length co38) ∧ w'.cell? ⟨gb286, 1, none⟩ = some (.slice Ao42 t283.length co42) ∧ w'.cell? ⟨gb260, 0, none⟩ = some (.slice A0_0 l0_0.length c0_0) ∧ w'.cell? ⟨gb260, 1, none⟩ = some (.slice A0_1 l0_1.length c0_1)) (ds := []) #[false, false, false, false, false] (by kernel_rfl) rfl rfl ⟨(blk_cell BK286.out 0).trans rfl, (blk_cell BK286.out 1).trans rfl, (blk_cell BK260.out 0).trans rfl, (blk_cell BK260.out 1).trans rfl⟩ (fun hHeld => ?_)
        generalize wc.drew = w82 at HO_9 HO_280000 HO_280001 HO_287000 HO_287001 HO_298000 HO_298001 BK260 BK279 BK286 BK297 HB hHeld ⊢
        refine take_ (i := 0) (N := some 54) (v := ?_) (a' := ?_) #[true, false, false, false, false] rfl rfl (by kernel_rfl) (fun _ _ _ h => h) (Or.inl ⟨by rfl, ?_⟩) hHeld ?_ ?_
        rotate_left
        ·rintro w' ⟨s0, s1, s2, s3⟩
         go_simp
         with_reducible rfl
        rotate_left
        ·simp only [Act.put, List.setIfInBounds_toArray, List.set_cons_zero, List.set_cons_succ, i64_w, i32_w]
         rfl
        refine take_ (i := 1) (N := some 55) (v := ?_) (a' := ?_) #[true, true, false, false, false] rfl rfl (by kernel_rfl) (fun _ _ _ h => h) (Or.inl ⟨by rfl, ?_⟩) hHeld ?_ ?_
        rotate_left
        ·rintro w' ⟨s0, s1, s2, s3⟩
         go_simp
         with_reducible rfl
        rotate_left
        ·simp only [Act.put, List.setIfInBounds_toArray, List.set_cons_zero, List.set_cons_succ, i64_w, i32_w]
         rfl
        refine one_ (i := 2) (N := some 56) #[true, true, true, false, false] rfl rfl (by kernel_rfl) (by decide) (fun K hK => ?_)
        refine goes_ Try.func17 (by kernel_rfl) rfl #[.agg #[.slice A0_0 l0_0.length c0_0, .slice A0_1 l0_1.length c0_1]] (by rfl) rfl rfl (by (try simp only [List.map_toArray, List.map_cons, List.map_nil]); first | done | rfl | (simp only [List.length_drop, List.length_take]; rfl)) ?_
        with_reducible refine (laws_toVessels.calls kj18 _ _ l0_0 _ _ l0_1 t299 t302 _ ?side1 ?side2 ?side3 ?side4 A73.out).mono ?_
        (case side1 => exact xd ((Kd.C_below HR0_0.out HB.out)))
        (case side2 => exact HC0_0.out)
        (case side3 => exact xd ((Kd.C_below HR0_1.out HB.out)))
        (case side4 => exact HC0_1.out)
        rintro e w83 ⟨v300, v303, rfl, ho0, ho1, hb⟩
        refine ⟨_, rfl, ?_⟩
        replace HO_9 := xq HO_9 hb
        have HO301 := Aside0.mk (Kd.R_lower (Kd.R_new' (Kd.R_new' (Kd.R_new' (Kd.R_new' (Kd.R_new' (Kd.R_new' ho0 (Kd.R_lt (xr HO_280000.out))) (Kd.R_lt (xr HO_280001.out))) (Kd.R_lt (xr HO_287000.out))) (Kd.R_lt (xr HO_287001.out))) (Kd.R_lt (xr HO_298000.out))) (Kd.R_lt (xr HO_298001.out))) (below_size (xs HB.out)))
        have HO304 := Aside0.mk (Kd.R_lower (Kd.R_new' (Kd.R_new' (Kd.R_new' (Kd.R_new' (Kd.R_new' (Kd.R_new' ho1 (Kd.R_lt (xr HO_280000.out))) (Kd.R_lt (xr HO_280001.out))) (Kd.R_lt (xr HO_287000.out))) (Kd.R_lt (xr HO_287001.out))) (Kd.R_lt (xr HO_298000.out))) (Kd.R_lt (xr HO_298001.out))) (below_size (xs HB.out)))
        replace HO_280000 := xt HO_280000 hb ho0 ho1
        replace HO_280001 := xt HO_280001 hb ho0 ho1
        replace HO_287000 := xt HO_287000 hb ho0 ho1
        replace HO_287001 := xt HO_287001 hb ho0 ho1
        replace HO_298000 := xt HO_298000 hb ho0 ho1
        replace HO_298001 := xt HO_298001 hb ho0 ho1
        replace BK260 := xk BK260 hb
        replace BK279 := xk BK279 hb
        replace BK286 := xk BK286 hb
        replace BK297 := xk BK297 hb
        replace HB := xp HB hb
        (try clear hb)
        (try clear hb2)
        (try clear hk)
        (try clear hi)
        (try clear ho0)
        (try clear ho1)
        obtain ⟨Ao84, co84, eo84⟩ := Kd.R_slice HO301.out
        (first | subst eo84 | (injection eo84 with f1_ f2_ f3_; have f4_ := f1_.symm; have f5_ := f3_.symm; clear f1_ f2_ f3_; subst f4_; subst f5_))
        obtain ⟨Ao85, co85, eo85⟩ := Kd.R_slice HO304.out
        (first | subst eo85 | (injection eo85 with f1_ f2_ f3_; have f4_ := f1_.symm; have f5_ := f3_.symm; clear f1_ f2_ f3_; subst f4_; subst f5_))
        refine hK.out _ _ ⟨(blk_cell BK286.out 0).trans rfl, (blk_cell BK286.out 1).trans rfl, (blk_cell BK260.out 0).trans rfl, (blk_cell BK260.out 1).trans rfl⟩ (fun hHeld => ?_)
        clear hK K
        refine norm_ (a' := ?_) ?_ ?_
        rotate_left
        ·show Act.put _ (some 56) _ = _
         simp only [Act.put, List.setIfInBounds_toArray, List.set_cons_zero, List.set_cons_succ, i64_w, i32_w]
         rfl
        refine one_ (i := 3) (N := some 57) #[true, true, true, true, false] rfl rfl (by kernel_rfl) (by decide) (fun K hK => ?_)
        refine goes_ Try.func19 (by kernel_rfl) rfl #[.agg #[.slice Ao38 t280.length co38, .slice Ao42 t283.length co42], .agg #[.slice Ao84 t299.length co84, .slice Ao85 t302.length co85]] (by rfl) rfl rfl (by (try simp only [List.map_toArray, List.map_cons, List.map_nil]); first | done | rfl | (simp only [List.length_drop, List.length_take]; rfl)) ?_
        with_reducible refine (laws_eqVessels.calls kj18 _ _ t280 _ _ t283 _ _ t299 _ _ t302 true _ ?side1 ?side2 ?side3 ?side4 ?side5 ?side6 ?side7 ?side8 A74.out).mono ?_
        (case side1 => exact xd ((Kd.R_reads' HO_287000.out).2.2))
        (case side2 => exact (Kd.R_reads' HO_287000.out).2.1)
        (case side3 => exact xd ((Kd.R_reads' HO_287001.out).2.2))
        (case side4 => exact (Kd.R_reads' HO_287001.out).2.1)
        (case side5 => exact xd ((Kd.R_reads' HO301.out).2.2))
        (case side6 => exact (Kd.R_reads' HO301.out).2.1)
        (case side7 => exact xd ((Kd.R_reads' HO304.out).2.2))
        (case side8 => exact (Kd.R_reads' HO304.out).2.1)
        rintro e w86 ⟨rfl, hb⟩
        refine ⟨_, rfl, ?_⟩
        replace HO_9 := xq HO_9 hb
        replace HO_280000 := xq HO_280000 hb
        replace HO_280001 := xq HO_280001 hb
        replace HO_287000 := xq HO_287000 hb
        replace HO_287001 := xq HO_287001 hb
        replace HO_298000 := xq HO_298000 hb
        replace HO_298001 := xq HO_298001 hb
        replace HO301 := xq HO301 hb
        replace HO304 := xq HO304 hb
        replace BK260 := xk BK260 hb
        replace BK279 := xk BK279 hb
        replace BK286 := xk BK286 hb
        replace BK297 := xk BK297 hb
        replace HB := xp HB hb
        (try clear hb)
        (try clear hb2)
        (try clear hk)
        (try clear hi)
        refine hK.out _ _ ⟨(blk_cell BK286.out 0).trans rfl, (blk_cell BK286.out 1).trans rfl, (blk_cell BK260.out 0).trans rfl, (blk_cell BK260.out 1).trans rfl⟩ (fun hHeld => ?_)
        clear hK K
        refine norm_ (a' := ?_) ?_ ?_
        rotate_left
        ·show Act.put _ (some 57) _ = _
         simp only [Act.put, List.setIfInBounds_toArray, List.set_cons_zero, List.set_cons_succ, i64_w, i32_w]
         rfl
        refine pure_ (i := 4) (N := some 58) (v := ?_) (a' := ?_) #[true, true, true, true, true] rfl rfl (by kernel_rfl) (fun _ _ _ h => h) (Or.inl ⟨by rfl, ?_⟩) ?_ ?_
        rotate_left
        ·intro w'
         go_simp
         with_reducible rfl
        rotate_left
        ·simp only [Act.put, List.setIfInBounds_toArray, List.set_cons_zero, List.set_cons_succ, i64_w, i32_w]
         rfl
        refine done_ (by kernel_rfl) ?_
        go_upto_region 21 with (first | ((with_reducible refine gate_callee (f := 31) rfl ?_); refine goesL_ (some 61) rfl rfl Try.func31 (by kernel_rfl) rfl #[.slice A1 l1.length c1] rfl (by (try simp only [List.map_toArray, List.map_cons, List.map_nil]); first | done | rfl | (simp only [List.length_drop, List.length_take]; rfl)) ?_; (with_reducible refine (laws_toMoveS.calls kj18 _ _ l1 t306 _ ?side1 ?side2 A76.out).mono ?_); (case side1 => exact xd ((Kd.C_below HR1.out HB.out))); (case side2 => exact HC1.out); rintro e w87 ⟨v307, rfl, ho0, hb⟩; refine ⟨_, rfl, ?_⟩; replace HO_280000 := xq HO_280000 hb; replace HO_280001 := xq HO_280001 hb; replace HO_287000 := xq HO_287000 hb; replace HO_287001 := xq HO_287001 hb; replace HO_298000 := xq HO_298000 hb; replace HO_298001 := xq HO_298001 hb; replace HO301 := xq HO301 hb; replace HO304 := xq HO304 hb; have HO308 := Aside0.mk (Kd.R_lower (Kd.R_new' ho0 (Kd.R_lt (xr HO_9.out))) (below_size (xs HB.out))); replace HO_9 := Aside0.mk (Kd.R_elder' (xr HO_9.out) (Kd.R_base ho0) hb); replace BK260 := xk BK260 hb; replace BK279 := xk BK279 hb; replace BK286 := xk BK286 hb; replace BK297 := xk BK297 hb; replace HB := xp HB hb; (try clear hb); (try clear hb2); (try clear hk); (try clear hi); (try clear ho0); obtain ⟨Ao88, co88, eo88⟩ := Kd.R_slice HO308.out; subst eo88) | ((with_reducible refine gate_callee (f := 33) rfl ?_); refine goesL_ (some 62) rfl rfl Try.func33 (by kernel_rfl) rfl #[.slice Ao45 t287.length co45, .slice Ao88 t306.length co88] rfl (by (try simp only [List.map_toArray, List.map_cons, List.map_nil]); first | done | rfl | (simp only [List.length_drop, List.length_take]; rfl)) ?_; (with_reducible refine (laws_eqMoveS.calls kj18 _ _ t287 _ _ t306 true _ ?side1 ?side2 ?side3 ?side4 A77.out).mono ?_); (case side1 => exact xd ((Kd.R_reads' HO_9.out).2.2)); (case side2 => exact (Kd.R_reads' HO_9.out).2.1); (case side3 => exact xd ((Kd.R_reads' HO308.out).2.2)); (case side4 => exact (Kd.R_reads' HO308.out).2.1); rintro e w89 ⟨rfl, hb⟩; refine ⟨_, rfl, ?_⟩; replace HO_9 := xq HO_9 hb; replace HO_280000 := xq HO_280000 hb; replace HO_280001 := xq HO_280001 hb; replace HO_287000 := xq HO_287000 hb; replace HO_287001 := xq HO_287001 hb; replace HO_298000 := xq HO_298000 hb; replace HO_298001 := xq HO_298001 hb; replace HO301 := xq HO301 hb; replace HO304 := xq HO304 hb; replace HO308 := xq HO308 hb; replace BK260 := xk BK260 hb; replace BK279 := xk BK279 hb; replace BK286 := xk BK286 hb; replace BK297 := xk BK297 hb; replace HB := xp HB hb; (try clear hb); (try clear hb2); (try clear hk); (try clear hi); have hnb90 := NB286_260.out; have hnc90 := NB260_286.out; have hnb91 := NB286_279.out; have hnc91 := NB279_286.out; have hnb92 := NB286_297.out; have hnc92 := NB297_286.out; have hcz93_0 : w89.cell? ⟨gb286, 0, none⟩ = some (.slice Ao38 t280.length co38) := (blk_cell BK286.out 0).trans rfl; have hcz93_1 : w89.cell? ⟨gb286, 1, none⟩ = some (.slice Ao42 t283.length co42) := (blk_cell BK286.out 1).trans rfl; have hfz93_0 := blk_frozen BK286.out 0; have hfz93_1 := blk_frozen BK286.out 1) | ((with_reducible refine gate_callee (f := 20) rfl ?_); refine goesL_ (some 66) rfl rfl Try.func20 (by kernel_rfl) rfl #[.agg #[.slice Ao38 t280.length co38, .slice Ao42 t283.length co42], .int .i64 1] rfl (by (try simp only [List.map_toArray, List.map_cons, List.map_nil]); first | done | rfl | (simp only [List.length_drop, List.length_take]; rfl)) ?_; (with_reducible refine (laws_markVessels.calls kj18 (fun k_ => some k_ = (.slice Ao38 t280.length co38 : Value).ownBlock) (.slice Ao38 t280.length co38) t280 (fun k_ => some k_ = (.slice Ao42 t283.length co42 : Value).ownBlock) (.slice Ao42 t283.length co42) t283 1 t310 t311 t312 w _ ?side1 ?side2 ?side3 ?side4 ?side5 A79.out).mono ?_); (case side1 => repeat (first | (with_reducible first | exact HB.out | apply below_alloc | apply pw_below_drewN | apply below_drew1 | refine below_set ?_ GE260.out | refine below_set ?_ GE279.out | refine below_set ?_ GE286.out | refine below_set ?_ GE297.out) | exact HB.out)); (case side2 => exact Kd.R_tight rfl HO_287000.out); (case side3 => exact fun k_ e_ => (HO_287000.out.1 k_ e_.symm).1.1.2.2.1); (case side4 => exact Kd.R_tight rfl HO_287001.out); (case side5 => exact fun k_ e_ => (HO_287001.out.1 k_ e_.symm).1.1.2.2.1); rintro e w94 ⟨rfl, hy0, hy1, hb, hkp⟩; refine ⟨_, rfl, ?_⟩; replace HO_9 := Aside0.mk (Kd.R_mono (ok' := fun k_ => nS k_ Ao88 t306.length co88) (Kd.R_keptB ((Kd.R_apart' (Kd.R_apart' HO_9.out (Kd.R_typed HO_287000.out) (by decide)) (Kd.R_typed HO_287001.out) (by decide))) hkp (fun k_ hk_ hs_ => Or.elim hs_ (fun e_ => (hk_.1.2) e_) (fun e_ => (hk_.2) e_))) (fun k_ hk_ => hk_.1.1.1.2)); replace HO_280000 := Aside0.mk (Kd.R_mono (ok' := fun k_ => nS k_ Ao34 t275.length co34 ∧ nS k_ Ao38 t280.length co38 ∧ nS k_ Ao42 t283.length co42 ∧ nS k_ Ao48 t290.length co48 ∧ nS k_ Ao53 t293.length co53 ∧ nS k_ Ao84 t299.length co84 ∧ nS k_ Ao85 t302.length co85) (Kd.R_keptB (HO_280000.out) hkp (fun k_ hk_ hs_ => Or.elim hs_ (fun e_ => (hk_.1.1.2.1) e_) (fun e_ => (hk_.1.1.2.2.1) e_))) (fun k_ hk_ => ⟨hk_.1.1.1.1, hk_.1.1.1.2.1, hk_.1.1.1.2.2.1, hk_.1.1.1.2.2.2.1, hk_.1.1.1.2.2.2.2, hk_.1.1.2, hk_.1.2⟩)); replace HO_280001 := Aside0.mk (Kd.R_mono (ok' := fun k_ => nS k_ Ao31 t272.length co31 ∧ nS k_ Ao38 t280.length co38 ∧ nS k_ Ao42 t283.length co42 ∧ nS k_ Ao48 t290.length co48 ∧ nS k_ Ao53 t293.length co53 ∧ nS k_ Ao84 t299.length co84 ∧ nS k_ Ao85 t302.length co85) (Kd.R_keptB (HO_280001.out) hkp (fun k_ hk_ hs_ => Or.elim hs_ (fun e_ => (hk_.1.1.2.1) e_) (fun e_ => (hk_.1.1.2.2.1) e_))) (fun k_ hk_ => ⟨hk_.1.1.1.1, hk_.1.1.1.2.1, hk_.1.1.1.2.2.1, hk_.1.1.1.2.2.2.1, hk_.1.1.1.2.2.2.2, hk_.1.1.2, hk_.1.2⟩)); replace HO_298000 := Aside0.mk (Kd.R_mono (ok' := fun k_ => nS k_ Ao31 t272.length co31 ∧ nS k_ Ao34 t275.length co34 ∧ nS k_ Ao38 t280.length co38 ∧ nS k_ Ao42 t283.length co42 ∧ nS k_ Ao53 t293.length co53 ∧ nS k_ Ao84 t299.length co84 ∧ nS k_ Ao85 t302.length co85) (Kd.R_keptB (HO_298000.out) hkp (fun k_ hk_ hs_ => Or.elim hs_ (fun e_ => (hk_.1.1.2.2.1) e_) (fun e_ => (hk_.1.1.2.2.2.1) e_))) (fun k_ hk_ => ⟨hk_.1.1.1.1, hk_.1.1.1.2.1, hk_.1.1.1.2.2.1, hk_.1.1.1.2.2.2.1, hk_.1.1.1.2.2.2.2, hk_.1.1.2, hk_.1.2⟩)); replace HO_298001 := Aside0.mk (Kd.R_mono (ok' := fun k_ => nS k_ Ao31 t272.length co31 ∧ nS k_ Ao34 t275.length co34 ∧ nS k_ Ao38 t280.length co38 ∧ nS k_ Ao42 t283.length co42 ∧ nS k_ Ao48 t290.length co48 ∧ nS k_ Ao84 t299.length co84 ∧ nS k_ Ao85 t302.length co85) (Kd.R_keptB (HO_298001.out) hkp (fun k_ hk_ hs_ => Or.elim hs_ (fun e_ => (hk_.1.1.2.2.1) e_) (fun e_ => (hk_.1.1.2.2.2.1) e_))) (fun k_ hk_ => ⟨hk_.1.1.1.1, hk_.1.1.1.2.1, hk_.1.1.1.2.2.1, hk_.1.1.1.2.2.2.1, hk_.1.1.1.2.2.2.2, hk_.1.1.2, hk_.1.2⟩)); replace BK260 := Aside0.mk (blk_kept (xb BK260.out) hkp (fun hs_ => Or.elim hs_ (fun e_ => (fun e_ => (Kd.R_ne HO_287000.out BK260.out (by decide)) e_) e_) (fun e_ => (fun e_ => (Kd.R_ne HO_287001.out BK260.out (by decide)) e_) e_))); replace BK279 := Aside0.mk (blk_kept (xb BK279.out) hkp (fun hs_ => Or.elim hs_ (fun e_ => (fun e_ => (Kd.R_ne HO_287000.out BK279.out (by decide)) e_) e_) (fun e_ => (fun e_ => (Kd.R_ne HO_287001.out BK279.out (by decide)) e_) e_))); replace BK286 := Aside0.mk (blk_kept (xb BK286.out) hkp (fun hs_ => Or.elim hs_ (fun e_ => (fun e_ => (Kd.R_ne HO_287000.out BK286.out (by decide)) e_) e_) (fun e_ => (fun e_ => (Kd.R_ne HO_287001.out BK286.out (by decide)) e_) e_))); replace BK297 := Aside0.mk (blk_kept (xb BK297.out) hkp (fun hs_ => Or.elim hs_ (fun e_ => (fun e_ => (Kd.R_ne HO_287000.out BK297.out (by decide)) e_) e_) (fun e_ => (fun e_ => (Kd.R_ne HO_287001.out BK297.out (by decide)) e_) e_))); replace HO301 := Aside0.mk (Kd.R_mono (ok' := fun k_ => nS k_ Ao31 t272.length co31 ∧ nS k_ Ao34 t275.length co34 ∧ nS k_ Ao38 t280.length co38 ∧ nS k_ Ao42 t283.length co42 ∧ nS k_ Ao48 t290.length co48 ∧ nS k_ Ao53 t293.length co53 ∧ nS k_ Ao85 t302.length co85) (Kd.R_keptB (HO301.out) hkp (fun k_ hk_ hs_ => Or.elim hs_ (fun e_ => (hk_.1.1.1.2) e_) (fun e_ => (hk_.1.1.2) e_))) (fun k_ hk_ => ⟨hk_.1.1.1.1.1.1.2, hk_.1.1.1.1.1.2, hk_.1.1.1.1.2, hk_.1.1.1.2, hk_.1.1.2, hk_.1.2, hk_.1.1.1.1.1.1.1⟩)); replace HO304 := Aside0.mk (Kd.R_mono (ok' := fun k_ => nS k_ Ao31 t272.length co31 ∧ nS k_ Ao34 t275.length co34 ∧ nS k_ Ao38 t280.length co38 ∧ nS k_ Ao42 t283.length co42 ∧ nS k_ Ao48 t290.length co48 ∧ nS k_ Ao53 t293.length co53 ∧ nS k_ Ao84 t299.length co84) (Kd.R_keptB (HO304.out) hkp (fun k_ hk_ hs_ => Or.elim hs_ (fun e_ => (hk_.1.1.1.2) e_) (fun e_ => (hk_.1.1.2) e_))) (fun k_ hk_ => ⟨hk_.1.1.1.1.1.1.2, hk_.1.1.1.1.1.2, hk_.1.1.1.1.2, hk_.1.1.1.2, hk_.1.1.2, hk_.1.2, hk_.1.1.1.1.1.1.1⟩)); replace HO308 := Aside0.mk (Kd.R_mono (ok' := fun k_ => nS k_ Ao45 t287.length co45) (Kd.R_keptB ((Kd.R_apart' (Kd.R_apart' HO308.out (Kd.R_typed HO_287000.out) (by decide)) (Kd.R_typed HO_287001.out) (by decide))) hkp (fun k_ hk_ hs_ => Or.elim hs_ (fun e_ => (hk_.1.2) e_) (fun e_ => (hk_.2) e_))) (fun k_ hk_ => hk_.1.1.1.2)); replace HO_287000 := Aside0.mk (Kd.R_reok rfl hy0 (fun k_ e_ => HO_287000.out.1 k_ e_)); replace HO_287001 := Aside0.mk (Kd.R_reok rfl hy1 (fun k_ e_ => HO_287001.out.1 k_ e_)); replace HB := Aside0.mk (hb); (try clear hb); (try clear hkp); (try clear hy0); (try clear hy1)) | ((with_reducible refine gate_callee (f := 36) rfl ?_); refine goesL_ (some 69) rfl rfl Try.func36 (by kernel_rfl) rfl #[.slice Ao45 t287.length co45, .int .i64 t310] rfl (by (try simp only [List.map_toArray, List.map_cons, List.map_nil]); first | done | rfl | (simp only [List.length_drop, List.length_take]; rfl)) ?_; (with_reducible refine (laws_markMoveS.calls kj18 (fun k_ => some k_ = (.slice Ao45 t287.length co45 : Value).ownBlock) (.slice Ao45 t287.length co45) t287 t310 t313 t314 w _ ?side1 ?side2 A80.out).mono ?_); (case side1 => repeat (first | (with_reducible first | exact HB.out | apply below_alloc | apply pw_below_drewN | apply below_drew1 | refine below_set ?_ GE260.out | refine below_set ?_ GE279.out | refine below_set ?_ GE286.out | refine below_set ?_ GE297.out) | exact HB.out)); (case side2 => exact Kd.R_tight rfl HO_9.out); rintro e w95 ⟨rfl, hy0, hb, hkp⟩; refine ⟨_, rfl, ?_⟩; replace HO_280000 := Aside0.mk (Kd.R_mono (ok' := fun k_ => nS k_ Ao34 t275.length co34 ∧ nS k_ Ao38 t280.length co38 ∧ nS k_ Ao42 t283.length co42 ∧ nS k_ Ao48 t290.length co48 ∧ nS k_ Ao53 t293.length co53 ∧ nS k_ Ao84 t299.length co84 ∧ nS k_ Ao85 t302.length co85) (Kd.R_keptB ((Kd.R_apart' HO_280000.out (Kd.R_typed HO_9.out) (by decide))) hkp (fun k_ hk_ hs_ => (hk_.2) hs_)) (fun k_ hk_ => ⟨hk_.1.1.1, hk_.1.1.2.1, hk_.1.1.2.2.1, hk_.1.1.2.2.2.1, hk_.1.1.2.2.2.2.1, hk_.1.1.2.2.2.2.2.1, hk_.1.1.2.2.2.2.2.2⟩)); replace HO_280001 := Aside0.mk (Kd.R_mono (ok' := fun k_ => nS k_ Ao31 t272.length co31 ∧ nS k_ Ao38 t280.length co38 ∧ nS k_ Ao42 t283.length co42 ∧ nS k_ Ao48 t290.length co48 ∧ nS k_ Ao53 t293.length co53 ∧ nS k_ Ao84 t299.length co84 ∧ nS k_ Ao85 t302.length co85) (Kd.R_keptB ((Kd.R_apart' HO_280001.out (Kd.R_typed HO_9.out) (by decide))) hkp (fun k_ hk_ hs_ => (hk_.2) hs_)) (fun k_ hk_ => ⟨hk_.1.1.1, hk_.1.1.2.1, hk_.1.1.2.2.1, hk_.1.1.2.2.2.1, hk_.1.1.2.2.2.2.1, hk_.1.1.2.2.2.2.2.1, hk_.1.1.2.2.2.2.2.2⟩)); replace HO_287000 := Aside0.mk (Kd.R_mono (ok' := fun k_ => nS k_ Ao31 t272.length co31 ∧ nS k_ Ao34 t275.length co34 ∧ nS k_ Ao42 t283.length co42 ∧ nS k_ Ao48 t290.length co48 ∧ nS k_ Ao53 t293.length co53 ∧ nS k_ Ao84 t299.length co84 ∧ nS k_ Ao85 t302.length co85) (Kd.R_keptB ((Kd.R_apart' HO_287000.out (Kd.R_typed HO_9.out) (by decide))) hkp (fun k_ hk_ hs_ => (hk_.2) hs_)) (fun k_ hk_ => ⟨hk_.1.1.1.1.1, hk_.1.1.1.1.2.1, hk_.1.1.1.1.2.2.1, hk_.1.1.1.1.2.2.2.1, hk_.1.1.1.1.2.2.2.2, hk_.1.1.1.2, hk_.1.1.2⟩)); replace HO_287001 := Aside0.mk (Kd.R_mono (ok' := fun k_ => nS k_ Ao31 t272.length co31 ∧ nS k_ Ao34 t275.length co34 ∧ nS k_ Ao38 t280.length co38 ∧ nS k_ Ao48 t290.length co48 ∧ nS k_ Ao53 t293.length co53 ∧ nS k_ Ao84 t299.length co84 ∧ nS k_ Ao85 t302.length co85) (Kd.R_keptB ((Kd.R_apart' HO_287001.out (Kd.R_typed HO_9.out) (by decide))) hkp (fun k_ hk_ hs_ => (hk_.2) hs_)) (fun k_ hk_ => ⟨hk_.1.1.1.1.1, hk_.1.1.1.1.2.1, hk_.1.1.1.1.2.2.1, hk_.1.1.1.1.2.2.2.1, hk_.1.1.1.1.2.2.2.2, hk_.1.1.1.2, hk_.1.1.2⟩)); replace HO_298000 := Aside0.mk (Kd.R_mono (ok' := fun k_ => nS k_ Ao31 t272.length co31 ∧ nS k_ Ao34 t275.length co34 ∧ nS k_ Ao38 t280.length co38 ∧ nS k_ Ao42 t283.length co42 ∧ nS k_ Ao53 t293.length co53 ∧ nS k_ Ao84 t299.length co84 ∧ nS k_ Ao85 t302.length co85) (Kd.R_keptB ((Kd.R_apart' HO_298000.out (Kd.R_typed HO_9.out) (by decide))) hkp (fun k_ hk_ hs_ => (hk_.2) hs_)) (fun k_ hk_ => ⟨hk_.1.1.1, hk_.1.1.2.1, hk_.1.1.2.2.1, hk_.1.1.2.2.2.1, hk_.1.1.2.2.2.2.1, hk_.1.1.2.2.2.2.2.1, hk_.1.1.2.2.2.2.2.2⟩)); replace HO_298001 := Aside0.mk (Kd.R_mono (ok' := fun k_ => nS k_ Ao31 t272.length co31 ∧ nS k_ Ao34 t275.length co34 ∧ nS k_ Ao38 t280.length co38 ∧ nS k_ Ao42 t283.length co42 ∧ nS k_ Ao48 t290.length co48 ∧ nS k_ Ao84 t299.length co84 ∧ nS k_ Ao85 t302.length co85) (Kd.R_keptB ((Kd.R_apart' HO_298001.out (Kd.R_typed HO_9.out) (by decide))) hkp (fun k_ hk_ hs_ => (hk_.2) hs_)) (fun k_ hk_ => ⟨hk_.1.1.1, hk_.1.1.2.1, hk_.1.1.2.2.1, hk_.1.1.2.2.2.1, hk_.1.1.2.2.2.2.1, hk_.1.1.2.2.2.2.2.1, hk_.1.1.2.2.2.2.2.2⟩)); replace BK260 := Aside0.mk (blk_kept (xb BK260.out) hkp (fun hs_ => (fun e_ => (Kd.R_ne HO_9.out BK260.out (by decide)) e_) hs_)); replace BK279 := Aside0.mk (blk_kept (xb BK279.out) hkp (fun hs_ => (fun e_ => (Kd.R_ne HO_9.out BK279.out (by decide)) e_) hs_)); replace BK286 := Aside0.mk (blk_kept (xb BK286.out) hkp (fun hs_ => (fun e_ => (Kd.R_ne HO_9.out BK286.out (by decide)) e_) hs_)); replace BK297 := Aside0.mk (blk_kept (xb BK297.out) hkp (fun hs_ => (fun e_ => (Kd.R_ne HO_9.out BK297.out (by decide)) e_) hs_)); replace HO301 := Aside0.mk (Kd.R_mono (ok' := fun k_ => nS k_ Ao31 t272.length co31 ∧ nS k_ Ao34 t275.length co34 ∧ nS k_ Ao38 t280.length co38 ∧ nS k_ Ao42 t283.length co42 ∧ nS k_ Ao48 t290.length co48 ∧ nS k_ Ao53 t293.length co53 ∧ nS k_ Ao85 t302.length co85) (Kd.R_keptB ((Kd.R_apart' HO301.out (Kd.R_typed HO_9.out) (by decide))) hkp (fun k_ hk_ hs_ => (hk_.2) hs_)) (fun k_ hk_ => ⟨hk_.1.1.1, hk_.1.1.2.1, hk_.1.1.2.2.1, hk_.1.1.2.2.2.1, hk_.1.1.2.2.2.2.1, hk_.1.1.2.2.2.2.2.1, hk_.1.1.2.2.2.2.2.2⟩)); replace HO304 := Aside0.mk (Kd.R_mono (ok' := fun k_ => nS k_ Ao31 t272.length co31 ∧ nS k_ Ao34 t275.length co34 ∧ nS k_ Ao38 t280.length co38 ∧ nS k_ Ao42 t283.length co42 ∧ nS k_ Ao48 t290.length co48 ∧ nS k_ Ao53 t293.length co53 ∧ nS k_ Ao84 t299.length co84) (Kd.R_keptB ((Kd.R_apart' HO304.out (Kd.R_typed HO_9.out) (by decide))) hkp (fun k_ hk_ hs_ => (hk_.2) hs_)) (fun k_ hk_ => ⟨hk_.1.1.1, hk_.1.1.2.1, hk_.1.1.2.2.1, hk_.1.1.2.2.2.1, hk_.1.1.2.2.2.2.1, hk_.1.1.2.2.2.2.2.1, hk_.1.1.2.2.2.2.2.2⟩)); replace HO_9 := Aside0.mk (Kd.R_reok rfl hy0 (fun k_ e_ => HO_9.out.1 k_ e_)); replace HO308 := Aside0.mk (Kd.R_mono (ok' := fun k_ => nS k_ Ao45 t287.length co45) (Kd.R_keptB (HO308.out) hkp (fun k_ hk_ hs_ => (hk_) hs_)) (fun k_ hk_ => hk_.1)); replace HB := Aside0.mk (hb); (try clear hb); (try clear hkp); (try clear hy0)))
        (try simp only [Act.put, List.setIfInBounds_toArray, List.set_cons_zero, List.set_cons_succ])
        go_cut [82] (fun v82 wc => ∃ (kq : Nat) (x82_80 : Bool), v82 = .bool x82_80 ∧ Aside0 (laws_FnExactMakeMoves.j1 kq l1 t278 x82_80 l0_0 l0_1 t272 t275 t290 t293 = some true) ∧ Aside0 (kq ≤ kj18) ∧ Aside0 (Kd.R (Kd.int .i64) 3 wc w.heap.size (fun k_ => nS k_ Ao34 t275.length co34 ∧ nS k_ Ao38 t280.length co38 ∧ nS k_ Ao42 t283.length co42 ∧ nS k_ Ao48 t290.length co48 ∧ nS k_ Ao53 t293.length co53) (.slice Ao31 t272.length co31) t272) ∧ Aside0 (Kd.R (Kd.int .i64) 3 wc w.heap.size (fun k_ => nS k_ Ao31 t272.length co31 ∧ nS k_ Ao38 t280.length co38 ∧ nS k_ Ao42 t283.length co42 ∧ nS k_ Ao48 t290.length co48 ∧ nS k_ Ao53 t293.length co53) (.slice Ao34 t275.length co34) t275) ∧ Aside0 (Kd.R (Kd.int .i64) 3 wc w.heap.size (fun k_ => nS k_ Ao31 t272.length co31 ∧ nS k_ Ao34 t275.length co34 ∧ nS k_ Ao42 t283.length co42 ∧ nS k_ Ao48 t290.length co48 ∧ nS k_ Ao53 t293.length co53) (.slice Ao38 t280.length co38) t311) ∧ Aside0 (Kd.R (Kd.int .i64) 3 wc w.heap.size (fun k_ => nS k_ Ao31 t272.length co31 ∧ nS k_ Ao34 t275.length co34 ∧ nS k_ Ao38 t280.length co38 ∧ nS k_ Ao48 t290.length co48 ∧ nS k_ Ao53 t293.length co53) (.slice Ao42 t283.length co42) t312) ∧ Aside0 (Kd.R (Kd.int .i64) 3 wc w.heap.size (fun k_ => nS k_ Ao31 t272.length co31 ∧ nS k_ Ao34 t275.length co34 ∧ nS k_ Ao38 t280.length co38 ∧ nS k_ Ao42 t283.length co42 ∧ nS k_ Ao53 t293.length co53) (.slice Ao48 t290.length co48) t290) ∧ Aside0 (Kd.R (Kd.int .i64) 3 wc w.heap.size (fun k_ => nS k_ Ao31 t272.length co31 ∧ nS k_ Ao34 t275.length co34 ∧ nS k_ Ao38 t280.length co38 ∧ nS k_ Ao42 t283.length co42 ∧ nS k_ Ao48 t290.length co48) (.slice Ao53 t293.length co53) t293) ∧ Aside0 (wc.heap[gb260]? = some (.cells #[(.slice A0_0 l0_0.length c0_0), (.slice A0_1 l0_1.length c0_1)] 24 (0, 0))) ∧ Aside0 (wc.heap[gb279]? = some (.cells #[(.slice Ao31 t272.length co31), (.slice Ao34 t275.length co34)] 26 (0, 0))) ∧ Aside0 (wc.heap[gb286]? = some (.cells #[(.slice Ao38 t280.length co38), (.slice Ao42 t283.length co42)] 26 (0, 0))) ∧ Aside0 (wc.heap[gb297]? = some (.cells #[(.slice Ao48 t290.length co48), (.slice Ao53 t293.length co53)] 26 (0, 0))) ∧ Aside0 (Below w.heap.size w wc))
        case first =>
         have H := HC81.out
         clear HC81
         by_cases c96 : t313 < 0
         ·rw [if_pos c96] at H
          have c96b0 : decide (t313 < 0) = true := decide_eq_true c96
          clear c96
          (first | rw [c96b0] | (simp only [i64_w, i32_w]; rw [c96b0]) | skip)
          have H' := Aside0.mk H
          clear H
          go_wp2
          go_meet
          case rel => exact ⟨_, (true), (by first | rfl | (simp; done) | (simp [*]; done)), H', ⟨by have := HJ18.out; first | omega | exact Nat.le_refl _⟩, ⟨xm HO_280000 (fun _ hk => ⟨hk.1, ⟨hk.2.1, ⟨hk.2.2.1, ⟨hk.2.2.2.1, hk.2.2.2.2.1⟩⟩⟩⟩)⟩, ⟨xm HO_280001 (fun _ hk => ⟨hk.1, ⟨hk.2.1, ⟨hk.2.2.1, ⟨hk.2.2.2.1, hk.2.2.2.2.1⟩⟩⟩⟩)⟩, ⟨xm HO_287000 (fun _ hk => ⟨hk.1, ⟨hk.2.1, ⟨hk.2.2.1, ⟨hk.2.2.2.1, hk.2.2.2.2.1⟩⟩⟩⟩)⟩, ⟨xm HO_287001 (fun _ hk => ⟨hk.1, ⟨hk.2.1, ⟨hk.2.2.1, ⟨hk.2.2.2.1, hk.2.2.2.2.1⟩⟩⟩⟩)⟩, ⟨xm HO_298000 (fun _ hk => ⟨hk.1, ⟨hk.2.1, ⟨hk.2.2.1, ⟨hk.2.2.2.1, hk.2.2.2.2.1⟩⟩⟩⟩)⟩, ⟨xm HO_298001 (fun _ hk => ⟨hk.1, ⟨hk.2.1, ⟨hk.2.2.1, ⟨hk.2.2.2.1, hk.2.2.2.2.1⟩⟩⟩⟩)⟩, ⟨xb BK260.out⟩, ⟨xb BK279.out⟩, ⟨xb BK286.out⟩, ⟨xb BK297.out⟩, ⟨xs HB.out⟩⟩
         ·rw [if_neg c96] at H
          have c96b0 : decide (t313 < 0) = false := decide_eq_false c96
          clear c96
          (first | rw [c96b0] | (simp only [i64_w, i32_w]; rw [c96b0]) | skip)
          replace H := Option.bind_eq_some_iff.mp H
          obtain ⟨t315, A970, H⟩ := H
          replace H : (if t315 = true then (laws_FnExactMakeMoves.j1 kj18 l1 t278 (t296 != t278) l0_0 l0_1 t272 t275 t290 t293) else (laws_FnExactMakeMoves.j1 kj18 l1 t278 true l0_0 l0_1 t272 t275 t290 t293)) = some true := H
          have A97 := Aside0.mk A970
          clear A970
          by_cases c98 : t315 = true
          ·subst c98
           have H1 : (laws_FnExactMakeMoves.j1 kj18 l1 t278 (t296 != t278) l0_0 l0_1 t272 t275 t290 t293) = some true := by first | (rw [if_pos rfl] at H; exact H) | rfl
           clear H
           have H := H1
           clear H1
           have H' := Aside0.mk H
           clear H
           have hnb99 := NB297_260.out
           have hnc99 := NB260_297.out
           have hnb100 := NB297_279.out
           have hnc100 := NB279_297.out
           have hnb101 := NB297_286.out
           have hnc101 := NB286_297.out
           have hcz102_0 : w95.cell? ⟨gb297, 0, none⟩ = some (.slice Ao48 t290.length co48) := (blk_cell BK297.out 0).trans rfl
           have hcz102_1 : w95.cell? ⟨gb297, 1, none⟩ = some (.slice Ao53 t293.length co53) := (blk_cell BK297.out 1).trans rfl
           have hfz102_0 := blk_frozen BK297.out 0
           have hfz102_1 := blk_frozen BK297.out 1
           have hnb103 := NB279_260.out
           have hnc103 := NB260_279.out
           have hnb104 := NB279_286.out
           have hnc104 := NB286_279.out
           have hcz105_0 : w95.cell? ⟨gb279, 0, none⟩ = some (.slice Ao31 t272.length co31) := (blk_cell BK279.out 0).trans rfl
           have hcz105_1 : w95.cell? ⟨gb279, 1, none⟩ = some (.slice Ao34 t275.length co34) := (blk_cell BK279.out 1).trans rfl
           have hfz105_0 := blk_frozen BK279.out 0
           have hfz105_1 := blk_frozen BK279.out 1
           go_wp2_with (first | (go_at_call 19; (with_reducible refine (laws_eqVessels.calls kj18 _ _ t290 _ _ t293 _ _ t272 _ _ t275 true _ ?side1 ?side2 ?side3 ?side4 ?side5 ?side6 ?side7 ?side8 A97.out).mono ?_); (case side1 => exact xd ((Kd.R_reads' HO_298000.out).2.2)); (case side2 => exact (Kd.R_reads' HO_298000.out).2.1); (case side3 => exact xd ((Kd.R_reads' HO_298001.out).2.2)); (case side4 => exact (Kd.R_reads' HO_298001.out).2.1); (case side5 => exact xd ((Kd.R_reads' HO_280000.out).2.2)); (case side6 => exact (Kd.R_reads' HO_280000.out).2.1); (case side7 => exact xd ((Kd.R_reads' HO_280001.out).2.2)); (case side8 => exact (Kd.R_reads' HO_280001.out).2.1); rintro e w106 ⟨rfl, hb⟩; replace HO_9 := xq HO_9 hb; replace HO_280000 := xq HO_280000 hb; replace HO_280001 := xq HO_280001 hb; replace HO_287000 := xq HO_287000 hb; replace HO_287001 := xq HO_287001 hb; replace HO_298000 := xq HO_298000 hb; replace HO_298001 := xq HO_298001 hb; replace HO301 := xq HO301 hb; replace HO304 := xq HO304 hb; replace HO308 := xq HO308 hb; replace BK260 := xk BK260 hb; replace BK279 := xk BK279 hb; replace BK286 := xk BK286 hb; replace BK297 := xk BK297 hb; replace HB := xp HB hb; (try clear hb); (try clear hb2); (try clear hk); (try clear hi)))
           go_meet
           case rel => exact ⟨_, ((t296 != t278)), (by first | rfl | (simp; done) | (simp [*]; done)), H', ⟨by have := HJ18.out; first | omega | exact Nat.le_refl _⟩, ⟨xm HO_280000 (fun _ hk => ⟨hk.1, ⟨hk.2.1, ⟨hk.2.2.1, ⟨hk.2.2.2.1, hk.2.2.2.2.1⟩⟩⟩⟩)⟩, ⟨xm HO_280001 (fun _ hk => ⟨hk.1, ⟨hk.2.1, ⟨hk.2.2.1, ⟨hk.2.2.2.1, hk.2.2.2.2.1⟩⟩⟩⟩)⟩, ⟨xm HO_287000 (fun _ hk => ⟨hk.1, ⟨hk.2.1, ⟨hk.2.2.1, ⟨hk.2.2.2.1, hk.2.2.2.2.1⟩⟩⟩⟩)⟩, ⟨xm HO_287001 (fun _ hk => ⟨hk.1, ⟨hk.2.1, ⟨hk.2.2.1, ⟨hk.2.2.2.1, hk.2.2.2.2.1⟩⟩⟩⟩)⟩, ⟨xm HO_298000 (fun _ hk => ⟨hk.1, ⟨hk.2.1, ⟨hk.2.2.1, ⟨hk.2.2.2.1, hk.2.2.2.2.1⟩⟩⟩⟩)⟩, ⟨xm HO_298001 (fun _ hk => ⟨hk.1, ⟨hk.2.1, ⟨hk.2.2.1, ⟨hk.2.2.2.1, hk.2.2.2.2.1⟩⟩⟩⟩)⟩, ⟨xb BK260.out⟩, ⟨xb BK279.out⟩, ⟨xb BK286.out⟩, ⟨xb BK297.out⟩, ⟨xs HB.out⟩⟩
          ·replace c98 := Bool.eq_false_iff.mpr c98
           subst c98
           have H1 : (laws_FnExactMakeMoves.j1 kj18 l1 t278 true l0_0 l0_1 t272 t275 t290 t293) = some true := by first | (rw [if_neg (show ¬ (false = true) by decide)] at H; exact H) | rfl
           clear H
           have H := H1
           clear H1
           have H' := Aside0.mk H
           clear H
           have hnb107 := NB297_260.out
           have hnc107 := NB260_297.out
           have hnb108 := NB297_279.out
           have hnc108 := NB279_297.out
           have hnb109 := NB297_286.out
           have hnc109 := NB286_297.out
           have hcz110_0 : w95.cell? ⟨gb297, 0, none⟩ = some (.slice Ao48 t290.length co48) := (blk_cell BK297.out 0).trans rfl
           have hcz110_1 : w95.cell? ⟨gb297, 1, none⟩ = some (.slice Ao53 t293.length co53) := (blk_cell BK297.out 1).trans rfl
           have hfz110_0 := blk_frozen BK297.out 0
           have hfz110_1 := blk_frozen BK297.out 1
           have hnb111 := NB279_260.out
           have hnc111 := NB260_279.out
           have hnb112 := NB279_286.out
           have hnc112 := NB286_279.out
           have hcz113_0 : w95.cell? ⟨gb279, 0, none⟩ = some (.slice Ao31 t272.length co31) := (blk_cell BK279.out 0).trans rfl
           have hcz113_1 : w95.cell? ⟨gb279, 1, none⟩ = some (.slice Ao34 t275.length co34) := (blk_cell BK279.out 1).trans rfl
           have hfz113_0 := blk_frozen BK279.out 0
           have hfz113_1 := blk_frozen BK279.out 1
           go_wp2_with (first | (go_at_call 19; (with_reducible refine (laws_eqVessels.calls kj18 _ _ t290 _ _ t293 _ _ t272 _ _ t275 false _ ?side1 ?side2 ?side3 ?side4 ?side5 ?side6 ?side7 ?side8 A97.out).mono ?_); (case side1 => exact xd ((Kd.R_reads' HO_298000.out).2.2)); (case side2 => exact (Kd.R_reads' HO_298000.out).2.1); (case side3 => exact xd ((Kd.R_reads' HO_298001.out).2.2)); (case side4 => exact (Kd.R_reads' HO_298001.out).2.1); (case side5 => exact xd ((Kd.R_reads' HO_280000.out).2.2)); (case side6 => exact (Kd.R_reads' HO_280000.out).2.1); (case side7 => exact xd ((Kd.R_reads' HO_280001.out).2.2)); (case side8 => exact (Kd.R_reads' HO_280001.out).2.1); rintro e w114 ⟨rfl, hb⟩; replace HO_9 := xq HO_9 hb; replace HO_280000 := xq HO_280000 hb; replace HO_280001 := xq HO_280001 hb; replace HO_287000 := xq HO_287000 hb; replace HO_287001 := xq HO_287001 hb; replace HO_298000 := xq HO_298000 hb; replace HO_298001 := xq HO_298001 hb; replace HO301 := xq HO301 hb; replace HO304 := xq HO304 hb; replace HO308 := xq HO308 hb; replace BK260 := xk BK260 hb; replace BK279 := xk BK279 hb; replace BK286 := xk BK286 hb; replace BK297 := xk BK297 hb; replace HB := xp HB hb; (try clear hb); (try clear hb2); (try clear hk); (try clear hi)))
           go_meet
           case rel => exact ⟨_, (true), (by first | rfl | (simp; done) | (simp [*]; done)), H', ⟨by have := HJ18.out; first | omega | exact Nat.le_refl _⟩, ⟨xm HO_280000 (fun _ hk => ⟨hk.1, ⟨hk.2.1, ⟨hk.2.2.1, ⟨hk.2.2.2.1, hk.2.2.2.2.1⟩⟩⟩⟩)⟩, ⟨xm HO_280001 (fun _ hk => ⟨hk.1, ⟨hk.2.1, ⟨hk.2.2.1, ⟨hk.2.2.2.1, hk.2.2.2.2.1⟩⟩⟩⟩)⟩, ⟨xm HO_287000 (fun _ hk => ⟨hk.1, ⟨hk.2.1, ⟨hk.2.2.1, ⟨hk.2.2.2.1, hk.2.2.2.2.1⟩⟩⟩⟩)⟩, ⟨xm HO_287001 (fun _ hk => ⟨hk.1, ⟨hk.2.1, ⟨hk.2.2.1, ⟨hk.2.2.2.1, hk.2.2.2.2.1⟩⟩⟩⟩)⟩, ⟨xm HO_298000 (fun _ hk => ⟨hk.1, ⟨hk.2.1, ⟨hk.2.2.1, ⟨hk.2.2.2.1, hk.2.2.2.2.1⟩⟩⟩⟩)⟩, ⟨xm HO_298001 (fun _ hk => ⟨hk.1, ⟨hk.2.1, ⟨hk.2.2.1, ⟨hk.2.2.2.1, hk.2.2.2.2.1⟩⟩⟩⟩)⟩, ⟨xb BK260.out⟩, ⟨xb BK279.out⟩, ⟨xb BK286.out⟩, ⟨xb BK297.out⟩, ⟨xs HB.out⟩⟩
        case rest =>
         clear HC81
         try clear c1
         try clear c2
         try clear p2
         try clear c3
         try clear c4
         try clear c4b0
         try clear c5
         try clear c6
         try clear c7
         try clear c8
         try clear c9
         try clear c9b0
         try clear c10
         try clear c11
         try clear c15
         try clear c17
         try clear c19
         try clear c20
         try clear c29
         try clear c31
         try clear c32
         try clear c33
         try clear c34
         try clear c35
         try clear c36
         try clear c39
         try clear c40
         try clear c49
         try clear c50
         try clear c51
         try clear c55
         try clear c56
         try clear c57
         try clear c58
         try clear c60
         try clear c61
         try clear c64
         try clear c65
         try clear c66
         try clear c68
         try clear c69
         try clear c72
         try clear c75
         try clear c78
         try clear c90
         try clear c91
         try clear c92
         try clear c96
         try clear c96b0
         try clear c98
         try clear c99
         try clear c100
         try clear c101
         try clear c103
         try clear c104
         try clear c107
         try clear c108
         try clear c109
         try clear c111
         try clear c112
         try clear hcz102_0
         try clear hcz102_1
         try clear hcz105_0
         try clear hcz105_1
         try clear hcz110_0
         try clear hcz110_1
         try clear hcz113_0
         try clear hcz113_1
         try clear hcz11_0
         try clear hcz11_1
         try clear hcz21_0
         try clear hcz21_1
         try clear hcz23_0
         try clear hcz23_1
         try clear hcz33_0
         try clear hcz33_1
         try clear hcz35_0
         try clear hcz35_1
         try clear hcz41_0
         try clear hcz41_1
         try clear hcz44_0
         try clear hcz44_1
         try clear hcz52_0
         try clear hcz52_1
         try clear hcz59_0
         try clear hcz59_1
         try clear hcz62_0
         try clear hcz62_1
         try clear hcz67_0
         try clear hcz67_1
         try clear hcz6_0
         try clear hcz6_1
         try clear hcz70_0
         try clear hcz70_1
         try clear hcz93_0
         try clear hcz93_1
         try clear hfz102_0
         try clear hfz102_1
         try clear hfz105_0
         try clear hfz105_1
         try clear hfz110_0
         try clear hfz110_1
         try clear hfz113_0
         try clear hfz113_1
         try clear hfz11_0
         try clear hfz11_1
         try clear hfz21_0
         try clear hfz21_1
         try clear hfz23_0
         try clear hfz23_1
         try clear hfz33_0
         try clear hfz33_1
         try clear hfz35_0
         try clear hfz35_1
         try clear hfz41_0
         try clear hfz41_1
         try clear hfz44_0
         try clear hfz44_1
         try clear hfz52_0
         try clear hfz52_1
         try clear hfz59_0
         try clear hfz59_1
         try clear hfz62_0
         try clear hfz62_1
         try clear hfz67_0
         try clear hfz67_1
         try clear hfz6_0
         try clear hfz6_1
         try clear hfz70_0
         try clear hfz70_1
         try clear hfz93_0
         try clear hfz93_1
         try clear p2
         obtain ⟨kq, x82_80, rfl, HA, HJ80, HO_280000, HO_280001, HO_287000, HO_287001, HO_298000, HO_298001, BK260, BK279, BK286, BK297, HB⟩ := hcut
         have hl287000_80 := (Kd.R_reads' HO_287000.out).1
         rw [hl287000_80] at HO_287000
         (try simp only [hl287000_80])
         (try simp only [hl287000_80] at BK260)
         (try simp only [hl287000_80] at BK279)
         (try simp only [hl287000_80] at BK286)
         (try simp only [hl287000_80] at BK297)
         (try simp only [hl287000_80] at HO_280000)
         (try simp only [hl287000_80] at HO_280001)
         (try simp only [hl287000_80] at HO_287001)
         (try simp only [hl287000_80] at HO_298000)
         (try simp only [hl287000_80] at HO_298001)
         have hl287001_80 := (Kd.R_reads' HO_287001.out).1
         rw [hl287001_80] at HO_287001
         (try simp only [hl287001_80])
         (try simp only [hl287001_80] at BK260)
         (try simp only [hl287001_80] at BK279)
         (try simp only [hl287001_80] at BK286)
         (try simp only [hl287001_80] at BK297)
         (try simp only [hl287001_80] at HO_280000)
         (try simp only [hl287001_80] at HO_280001)
         (try simp only [hl287001_80] at HO_287000)
         (try simp only [hl287001_80] at HO_298000)
         (try simp only [hl287001_80] at HO_298001)
         cases kq with
         | zero => exact absurd HA.out (by simp [laws_FnExactMakeMoves.j1])
         | succ kj80 =>
          have H := HA.out
          clear HA
          simp only [laws_FnExactMakeMoves.j1] at H
          by_cases c115 : x82_80 = true
          ·subst c115
           have H1 : (some false) = some true := by first | (rw [if_pos rfl] at H; exact H) | rfl
           clear H
           have H := H1
           clear H1
           exact absurd H (by simp)
          ·replace c115 := Bool.eq_false_iff.mpr c115
           subst c115
           have H1 : ((laws_markVessels.f kj80 t290 t293 1).bind fun bt316 => ((laws_heldVessels.f kj80 bt316.2.1 bt316.2.2 1).bind fun t319 => (if t319 < 0 then (some false) else (if t319 = bt316.1 then ((laws_toVessels.f kj80 l0_0 l0_1).bind fun bt320 => ((laws_toMoveS.f kj80 l1).bind fun t326 => ((impl_MakeMoves.f kj80 bt320.1 bt320.2 t326).bind fun bt329 => ((laws_eqVessels.f kj80 bt329.1 bt329.2.1 t272 t275).bind fun t337 => (if t337 = true then (laws_FnExactMakeMoves.j2 kj80 bt316.1 (bt329.2.2 != t278) bt316.2.1 bt316.2.2) else (laws_FnExactMakeMoves.j2 kj80 bt316.1 true bt316.2.1 bt316.2.2)))))) else (some false))))) = some true := by first | (rw [if_neg (show ¬ (false = true) by decide)] at H; exact H) | rfl
           clear H
           have H := H1
           clear H1
           replace H := Option.bind_eq_some_iff.mp H
           obtain ⟨⟨t316, t317, t318⟩, A1160, H⟩ := H
           replace H : ((laws_heldVessels.f kj80 t317 t318 1).bind fun t319 => (if t319 < 0 then (some false) else (if t319 = t316 then ((laws_toVessels.f kj80 l0_0 l0_1).bind fun bt320 => ((laws_toMoveS.f kj80 l1).bind fun t326 => ((impl_MakeMoves.f kj80 bt320.1 bt320.2 t326).bind fun bt329 => ((laws_eqVessels.f kj80 bt329.1 bt329.2.1 t272 t275).bind fun t337 => (if t337 = true then (laws_FnExactMakeMoves.j2 kj80 t316 (bt329.2.2 != t278) t317 t318) else (laws_FnExactMakeMoves.j2 kj80 t316 true t317 t318)))))) else (some false)))) = some true := H
           have A116 := Aside0.mk A1160
           clear A1160
           replace H := Option.bind_eq_some_iff.mp H
           obtain ⟨t319, A1170, H⟩ := H
           replace H : (if t319 < 0 then (some false) else (if t319 = t316 then ((laws_toVessels.f kj80 l0_0 l0_1).bind fun bt320 => ((laws_toMoveS.f kj80 l1).bind fun t326 => ((impl_MakeMoves.f kj80 bt320.1 bt320.2 t326).bind fun bt329 => ((laws_eqVessels.f kj80 bt329.1 bt329.2.1 t272 t275).bind fun t337 => (if t337 = true then (laws_FnExactMakeMoves.j2 kj80 t316 (bt329.2.2 != t278) t317 t318) else (laws_FnExactMakeMoves.j2 kj80 t316 true t317 t318)))))) else (some false))) = some true := H
           have A117 := Aside0.mk A1170
           clear A1170
           by_cases c118 : t319 < 0
           ·rw [if_pos c118] at H
            have c118b0 : decide (t319 < 0) = true := decide_eq_true c118
            clear c118
            exact absurd H (by simp)
           ·rw [if_neg c118] at H
            have c118b0 : decide (t319 < 0) = false := decide_eq_false c118
            clear c118
            by_cases c119 : t319 = t316
            ·rw [if_pos c119] at H
             have c119b0 : (t319 == t316) = true := beq_iff_eq.mpr c119
             have c119b1 : (t319 != t316) = false := bne_eq_false_iff_eq.mpr c119
             clear c119
             replace H := Option.bind_eq_some_iff.mp H
             obtain ⟨⟨t320, t323⟩, A1200, H⟩ := H
             replace H : ((laws_toMoveS.f kj80 l1).bind fun t326 => ((impl_MakeMoves.f kj80 t320 t323 t326).bind fun bt329 => ((laws_eqVessels.f kj80 bt329.1 bt329.2.1 t272 t275).bind fun t337 => (if t337 = true then (laws_FnExactMakeMoves.j2 kj80 t316 (bt329.2.2 != t278) t317 t318) else (laws_FnExactMakeMoves.j2 kj80 t316 true t317 t318))))) = some true := H
             have A120 := Aside0.mk A1200
             clear A1200
             replace H := Option.bind_eq_some_iff.mp H
             obtain ⟨t326, A1210, H⟩ := H
             replace H : ((impl_MakeMoves.f kj80 t320 t323 t326).bind fun bt329 => ((laws_eqVessels.f kj80 bt329.1 bt329.2.1 t272 t275).bind fun t337 => (if t337 = true then (laws_FnExactMakeMoves.j2 kj80 t316 (bt329.2.2 != t278) t317 t318) else (laws_FnExactMakeMoves.j2 kj80 t316 true t317 t318)))) = some true := H
             have A121 := Aside0.mk A1210
             clear A1210
             replace H := Option.bind_eq_some_iff.mp H
             obtain ⟨⟨t329, t332, t335⟩, A1220, H⟩ := H
             replace H : ((laws_eqVessels.f kj80 t329 t332 t272 t275).bind fun t337 => (if t337 = true then (laws_FnExactMakeMoves.j2 kj80 t316 (t335 != t278) t317 t318) else (laws_FnExactMakeMoves.j2 kj80 t316 true t317 t318))) = some true := H
             have A122 := Aside0.mk A1220
             clear A1220
             have HC123 := Aside0.mk H
             clear H
             have hnb124 := NB297_260.out
             have hnc124 := NB260_297.out
             have hnb125 := NB297_279.out
             have hnc125 := NB279_297.out
             have hnb126 := NB297_286.out
             have hnc126 := NB286_297.out
             have hcz127_0 : wc.cell? ⟨gb297, 0, none⟩ = some (.slice Ao48 t290.length co48) := (blk_cell BK297.out 0).trans rfl
             have hcz127_1 : wc.cell? ⟨gb297, 1, none⟩ = some (.slice Ao53 t293.length co53) := (blk_cell BK297.out 1).trans rfl
             have hfz127_0 := blk_frozen BK297.out 0
             have hfz127_1 := blk_frozen BK297.out 1
             go_upto_region 32 with (first | ((with_reducible refine gate_callee (f := 20) rfl ?_); refine goesL_ (some 85) rfl rfl Try.func20 (by kernel_rfl) rfl #[.agg #[.slice Ao48 t290.length co48, .slice Ao53 t293.length co53], .int .i64 1] rfl (by (try simp only [List.map_toArray, List.map_cons, List.map_nil]); first | done | rfl | (simp only [List.length_drop, List.length_take]; rfl)) ?_; (with_reducible refine (laws_markVessels.calls kj80 (fun k_ => some k_ = (.slice Ao48 t290.length co48 : Value).ownBlock) (.slice Ao48 t290.length co48) t290 (fun k_ => some k_ = (.slice Ao53 t293.length co53 : Value).ownBlock) (.slice Ao53 t293.length co53) t293 1 t316 t317 t318 w _ ?side1 ?side2 ?side3 ?side4 ?side5 A116.out).mono ?_); (case side1 => repeat (first | (with_reducible first | exact HB.out | apply below_alloc | apply pw_below_drewN | apply below_drew1 | refine below_set ?_ GE260.out | refine below_set ?_ GE279.out | refine below_set ?_ GE286.out | refine below_set ?_ GE297.out) | exact HB.out)); (case side2 => exact Kd.R_tight rfl HO_298000.out); (case side3 => exact fun k_ e_ => (HO_298000.out.1 k_ e_.symm).2.2.2.2); (case side4 => exact Kd.R_tight rfl HO_298001.out); (case side5 => exact fun k_ e_ => (HO_298001.out.1 k_ e_.symm).2.2.2.2); rintro e w128 ⟨rfl, hy0, hy1, hb, hkp⟩; refine ⟨_, rfl, ?_⟩; replace HO_280000 := Aside0.mk (Kd.R_mono (ok' := fun k_ => nS k_ Ao34 t275.length co34 ∧ nS k_ Ao38 t311.length co38 ∧ nS k_ Ao42 t312.length co42 ∧ nS k_ Ao48 t290.length co48 ∧ nS k_ Ao53 t293.length co53) (Kd.R_keptB (HO_280000.out) hkp (fun k_ hk_ hs_ => Or.elim hs_ (fun e_ => (hk_.2.2.2.1) e_) (fun e_ => (hk_.2.2.2.2) e_))) (fun k_ hk_ => ⟨hk_.1.1, hk_.1.2.1, hk_.1.2.2.1, hk_.1.2.2.2.1, hk_.1.2.2.2.2⟩)); replace HO_280001 := Aside0.mk (Kd.R_mono (ok' := fun k_ => nS k_ Ao31 t272.length co31 ∧ nS k_ Ao38 t311.length co38 ∧ nS k_ Ao42 t312.length co42 ∧ nS k_ Ao48 t290.length co48 ∧ nS k_ Ao53 t293.length co53) (Kd.R_keptB (HO_280001.out) hkp (fun k_ hk_ hs_ => Or.elim hs_ (fun e_ => (hk_.2.2.2.1) e_) (fun e_ => (hk_.2.2.2.2) e_))) (fun k_ hk_ => ⟨hk_.1.1, hk_.1.2.1, hk_.1.2.2.1, hk_.1.2.2.2.1, hk_.1.2.2.2.2⟩)); replace HO_287000 := Aside0.mk (Kd.R_mono (ok' := fun k_ => nS k_ Ao31 t272.length co31 ∧ nS k_ Ao34 t275.length co34 ∧ nS k_ Ao42 t312.length co42 ∧ nS k_ Ao48 t290.length co48 ∧ nS k_ Ao53 t293.length co53) (Kd.R_keptB (HO_287000.out) hkp (fun k_ hk_ hs_ => Or.elim hs_ (fun e_ => (hk_.2.2.2.1) e_) (fun e_ => (hk_.2.2.2.2) e_))) (fun k_ hk_ => ⟨hk_.1.1, hk_.1.2.1, hk_.1.2.2.1, hk_.1.2.2.2.1, hk_.1.2.2.2.2⟩)); replace HO_287001 := Aside0.mk (Kd.R_mono (ok' := fun k_ => nS k_ Ao31 t272.length co31 ∧ nS k_ Ao34 t275.length co34 ∧ nS k_ Ao38 t311.length co38 ∧ nS k_ Ao48 t290.length co48 ∧ nS k_ Ao53 t293.length co53) (Kd.R_keptB (HO_287001.out) hkp (fun k_ hk_ hs_ => Or.elim hs_ (fun e_ => (hk_.2.2.2.1) e_) (fun e_ => (hk_.2.2.2.2) e_))) (fun k_ hk_ => ⟨hk_.1.1, hk_.1.2.1, hk_.1.2.2.1, hk_.1.2.2.2.1, hk_.1.2.2.2.2⟩)); replace BK260 := Aside0.mk (blk_kept (xb BK260.out) hkp (fun hs_ => Or.elim hs_ (fun e_ => (fun e_ => (Kd.R_ne HO_298000.out BK260.out (by decide)) e_) e_) (fun e_ => (fun e_ => (Kd.R_ne HO_298001.out BK260.out (by decide)) e_) e_))); replace BK279 := Aside0.mk (blk_kept (xb BK279.out) hkp (fun hs_ => Or.elim hs_ (fun e_ => (fun e_ => (Kd.R_ne HO_298000.out BK279.out (by decide)) e_) e_) (fun e_ => (fun e_ => (Kd.R_ne HO_298001.out BK279.out (by decide)) e_) e_))); replace BK286 := Aside0.mk (blk_kept (xb BK286.out) hkp (fun hs_ => Or.elim hs_ (fun e_ => (fun e_ => (Kd.R_ne HO_298000.out BK286.out (by decide)) e_) e_) (fun e_ => (fun e_ => (Kd.R_ne HO_298001.out BK286.out (by decide)) e_) e_))); replace BK297 := Aside0.mk (blk_kept (xb BK297.out) hkp (fun hs_ => Or.elim hs_ (fun e_ => (fun e_ => (Kd.R_ne HO_298000.out BK297.out (by decide)) e_) e_) (fun e_ => (fun e_ => (Kd.R_ne HO_298001.out BK297.out (by decide)) e_) e_))); replace HO_298000 := Aside0.mk (Kd.R_reok rfl hy0 (fun k_ e_ => HO_298000.out.1 k_ e_)); replace HO_298001 := Aside0.mk (Kd.R_reok rfl hy1 (fun k_ e_ => HO_298001.out.1 k_ e_)); replace HB := Aside0.mk (hb); (try clear hb); (try clear hkp); (try clear hy0); (try clear hy1); have hcz129_0 : w128.cell? ⟨gb297, 0, none⟩ = some (.slice Ao48 t290.length co48) := (blk_cell BK297.out 0).trans rfl; have hcz129_1 : w128.cell? ⟨gb297, 1, none⟩ = some (.slice Ao53 t293.length co53) := (blk_cell BK297.out 1).trans rfl; have hfz129_0 := blk_frozen BK297.out 0; have hfz129_1 := blk_frozen BK297.out 1) | ((with_reducible refine gate_callee (f := 21) rfl ?_); refine goesL_ (some 88) rfl rfl Try.func21 (by kernel_rfl) rfl #[.agg #[.slice Ao48 t317.length co48, .slice Ao53 t318.length co53], .int .i64 1] rfl (by (try simp only [List.map_toArray, List.map_cons, List.map_nil]); first | done | (rw [show t317.length = t290.length from (Kd.R_reads' HO_298000.out).1.symm, show t318.length = t293.length from (Kd.R_reads' HO_298001.out).1.symm] <;> rfl) | rfl | (simp only [List.length_drop, List.length_take]; rfl)) ?_; (with_reducible refine (laws_heldVessels.calls kj80 _ _ t317 _ _ t318 1 t319 _ ?side1 ?side2 ?side3 ?side4 A117.out).mono ?_); (case side1 => exact xd ((Kd.R_reads' HO_298000.out).2.2)); (case side2 => rw [show t317.length = t290.length from (Kd.R_reads' HO_298000.out).1.symm]; exact (Kd.R_reads' HO_298000.out).2.1); (case side3 => exact xd ((Kd.R_reads' HO_298001.out).2.2)); (case side4 => rw [show t318.length = t293.length from (Kd.R_reads' HO_298001.out).1.symm]; exact (Kd.R_reads' HO_298001.out).2.1); rintro e w130 ⟨rfl, hb⟩; refine ⟨_, rfl, ?_⟩; replace HO_280000 := xq HO_280000 hb; replace HO_280001 := xq HO_280001 hb; replace HO_287000 := xq HO_287000 hb; replace HO_287001 := xq HO_287001 hb; replace HO_298000 := xq HO_298000 hb; replace HO_298001 := xq HO_298001 hb; replace BK260 := xk BK260 hb; replace BK279 := xk BK279 hb; replace BK286 := xk BK286 hb; replace BK297 := xk BK297 hb; replace HB := xp HB hb; (try clear hb); (try clear hb2); (try clear hk); (try clear hi); have hnb131 := NB260_279.out; have hnc131 := NB279_260.out; have hnb132 := NB260_286.out; have hnc132 := NB286_260.out; have hcz133_0 : w130.cell? ⟨gb260, 0, none⟩ = some (.slice A0_0 l0_0.length c0_0) := (blk_cell BK260.out 0).trans rfl; have hcz133_1 : w130.cell? ⟨gb260, 1, none⟩ = some (.slice A0_1 l0_1.length c0_1) := (blk_cell BK260.out 1).trans rfl; have hfz133_0 := blk_frozen BK260.out 0; have hfz133_1 := blk_frozen BK260.out 1) | ((with_reducible refine gate_callee (f := 17) rfl ?_); refine goesL_ (some 96) rfl rfl Try.func17 (by kernel_rfl) rfl #[.agg #[.slice A0_0 l0_0.length c0_0, .slice A0_1 l0_1.length c0_1]] rfl (by (try simp only [List.map_toArray, List.map_cons, List.map_nil]); first | done | rfl | (simp only [List.length_drop, List.length_take]; rfl)) ?_; (with_reducible refine (laws_toVessels.calls kj80 _ _ l0_0 _ _ l0_1 t320 t323 _ ?side1 ?side2 ?side3 ?side4 A120.out).mono ?_); (case side1 => exact xd ((Kd.C_below HR0_0.out HB.out))); (case side2 => exact HC0_0.out); (case side3 => exact xd ((Kd.C_below HR0_1.out HB.out))); (case side4 => exact HC0_1.out); rintro e w134 ⟨v321, v324, rfl, ho0, ho1, hb⟩; refine ⟨_, rfl, ?_⟩; have HO322 := Aside0.mk (Kd.R_lower (Kd.R_new' (Kd.R_new' (Kd.R_new' (Kd.R_new' (Kd.R_new' (Kd.R_new' ho0 (Kd.R_lt (xr HO_280000.out))) (Kd.R_lt (xr HO_280001.out))) (Kd.R_lt (xr HO_287000.out))) (Kd.R_lt (xr HO_287001.out))) (Kd.R_lt (xr HO_298000.out))) (Kd.R_lt (xr HO_298001.out))) (below_size (xs HB.out))); have HO325 := Aside0.mk (Kd.R_lower (Kd.R_new' (Kd.R_new' (Kd.R_new' (Kd.R_new' (Kd.R_new' (Kd.R_new' ho1 (Kd.R_lt (xr HO_280000.out))) (Kd.R_lt (xr HO_280001.out))) (Kd.R_lt (xr HO_287000.out))) (Kd.R_lt (xr HO_287001.out))) (Kd.R_lt (xr HO_298000.out))) (Kd.R_lt (xr HO_298001.out))) (below_size (xs HB.out))); replace HO_280000 := xt HO_280000 hb ho0 ho1; replace HO_280001 := xt HO_280001 hb ho0 ho1; replace HO_287000 := xt HO_287000 hb ho0 ho1; replace HO_287001 := xt HO_287001 hb ho0 ho1; replace HO_298000 := xt HO_298000 hb ho0 ho1; replace HO_298001 := xt HO_298001 hb ho0 ho1; replace BK260 := xk BK260 hb; replace BK279 := xk BK279 hb; replace BK286 := xk BK286 hb; replace BK297 := xk BK297 hb; replace HB := xp HB hb; (try clear hb); (try clear hb2); (try clear hk); (try clear hi); (try clear ho0); (try clear ho1)) | ((with_reducible refine gate_callee (f := 31) rfl ?_); refine goesL_ (some 98) rfl rfl Try.func31 (by kernel_rfl) rfl #[.slice A1 l1.length c1] rfl (by (try simp only [List.map_toArray, List.map_cons, List.map_nil]); first | done | rfl | (simp only [List.length_drop, List.length_take]; rfl)) ?_; (with_reducible refine (laws_toMoveS.calls kj80 _ _ l1 t326 _ ?side1 ?side2 A121.out).mono ?_); (case side1 => exact xd ((Kd.C_below HR1.out HB.out))); (case side2 => exact HC1.out); rintro e w135 ⟨v327, rfl, ho0, hb⟩; refine ⟨_, rfl, ?_⟩; replace HO_280000 := xq HO_280000 hb; replace HO_280001 := xq HO_280001 hb; replace HO_287000 := xq HO_287000 hb; replace HO_287001 := xq HO_287001 hb; replace HO_298000 := xq HO_298000 hb; replace HO_298001 := xq HO_298001 hb; replace HO322 := xq HO322 hb; replace HO325 := xq HO325 hb; have HO328 := Aside0.mk (Kd.R_lower ho0 (below_size (xs HB.out))); replace BK260 := xk BK260 hb; replace BK279 := xk BK279 hb; replace BK286 := xk BK286 hb; replace BK297 := xk BK297 hb; replace HB := xp HB hb; (try clear hb); (try clear hb2); (try clear hk); (try clear hi); (try clear ho0); obtain ⟨Ao136, co136, eo136⟩ := Kd.R_slice HO322.out; subst eo136; obtain ⟨Ao137, co137, eo137⟩ := Kd.R_slice HO325.out; subst eo137; obtain ⟨Ao138, co138, eo138⟩ := Kd.R_slice HO328.out; subst eo138) | ((with_reducible refine gate_callee (f := 35) rfl ?_); refine goesL_ (some 99) rfl rfl Try.func35 (by kernel_rfl) rfl #[.agg #[.slice Ao136 t320.length co136, .slice Ao137 t323.length co137], .slice Ao138 t326.length co138] rfl (by (try simp only [List.map_toArray, List.map_cons, List.map_nil]); first | done | rfl | (simp only [List.length_drop, List.length_take]; rfl)) ?_; (with_reducible refine (impl_MakeMoves.calls kj80 _ _ t320 _ _ t323 _ _ t326 t329 t332 t335 _ ?side1 ?side2 ?side3 ?side4 ?side5 ?side6 A122.out).mono ?_); (case side1 => exact xd ((Kd.R_reads' HO322.out).2.2)); (case side2 => exact (Kd.R_reads' HO322.out).2.1); (case side3 => exact xd ((Kd.R_reads' HO325.out).2.2)); (case side4 => exact (Kd.R_reads' HO325.out).2.1); (case side5 => exact xd ((Kd.R_reads' HO328.out).2.2)); (case side6 => exact (Kd.R_reads' HO328.out).2.1); rintro e w139 ⟨v330, v333, rfl, ho0, ho1, hb⟩; refine ⟨_, rfl, ?_⟩; replace HO328 := xq HO328 hb; have HO331 := Aside0.mk (Kd.R_lower (Kd.R_new' (Kd.R_new' (Kd.R_new' (Kd.R_new' (Kd.R_new' (Kd.R_new' (Kd.R_new' (Kd.R_new' ho0 (Kd.R_lt (xr HO_280000.out))) (Kd.R_lt (xr HO_280001.out))) (Kd.R_lt (xr HO_287000.out))) (Kd.R_lt (xr HO_287001.out))) (Kd.R_lt (xr HO_298000.out))) (Kd.R_lt (xr HO_298001.out))) (Kd.R_lt (xr HO322.out))) (Kd.R_lt (xr HO325.out))) (below_size (xs HB.out))); have HO334 := Aside0.mk (Kd.R_lower (Kd.R_new' (Kd.R_new' (Kd.R_new' (Kd.R_new' (Kd.R_new' (Kd.R_new' (Kd.R_new' (Kd.R_new' ho1 (Kd.R_lt (xr HO_280000.out))) (Kd.R_lt (xr HO_280001.out))) (Kd.R_lt (xr HO_287000.out))) (Kd.R_lt (xr HO_287001.out))) (Kd.R_lt (xr HO_298000.out))) (Kd.R_lt (xr HO_298001.out))) (Kd.R_lt (xr HO322.out))) (Kd.R_lt (xr HO325.out))) (below_size (xs HB.out))); replace HO_280000 := xt HO_280000 hb ho0 ho1; replace HO_280001 := xt HO_280001 hb ho0 ho1; replace HO_287000 := xt HO_287000 hb ho0 ho1; replace HO_287001 := xt HO_287001 hb ho0 ho1; replace HO_298000 := xt HO_298000 hb ho0 ho1; replace HO_298001 := xt HO_298001 hb ho0 ho1; replace HO322 := xt HO322 hb ho0 ho1; replace HO325 := xt HO325 hb ho0 ho1; replace BK260 := xk BK260 hb; replace BK279 := xk BK279 hb; replace BK286 := xk BK286 hb; replace BK297 := xk BK297 hb; replace HB := xp HB hb; (try clear hb); (try clear hb2); (try clear hk); (try clear hi); (try clear ho0); (try clear ho1)) | ((with_reducible refine gate_dst (N := 15) rfl ?_); refine box_event ?hg (N := 15) ?hd (cs := #[.slice none 0 0, .slice none 0 0]) (t := 26) ?hr ?_; (case hd => rfl); (case hg => rfl); (case hr => first | (go_simp; done) | (go_simp; rfl)); intro gb336 hg w140 hbox hb; replace HO_280000 := xq HO_280000 hb; replace HO_280001 := xq HO_280001 hb; replace HO_287000 := xq HO_287000 hb; replace HO_287001 := xq HO_287001 hb; replace HO_298000 := xq HO_298000 hb; replace HO_298001 := xq HO_298001 hb; replace HO322 := xq HO322 hb; replace HO325 := xq HO325 hb; replace HO328 := xq HO328 hb; replace HO331 := xq HO331 hb; replace HO334 := xq HO334 hb; have BK336 := Aside0.mk (hbox); have GW336 := xg HB hg; have GE336 := xg HB hg; replace HB := xp HB hb; have NB260_336 := xl BK260 hg; have NB336_260 := xh BK260 hg; replace BK260 := xk BK260 hb; have NB279_336 := xl BK279 hg; have NB336_279 := xh BK279 hg; replace BK279 := xk BK279 hb; have NB286_336 := xl BK286 hg; have NB336_286 := xh BK286 hg; replace BK286 := xk BK286 hb; have NB297_336 := xl BK297 hg; have NB336_297 := xh BK297 hg; replace BK297 := xk BK297 hb; clear hb hbox hg; obtain ⟨Ao141, co141, eo141⟩ := Kd.R_slice HO331.out; subst eo141; have hnb142 := NB336_260.out; have hnc142 := NB260_336.out; have hnb143 := NB336_279.out; have hnc143 := NB279_336.out; have hnb144 := NB336_286.out; have hnc144 := NB286_336.out; have hnb145 := NB336_297.out; have hnc145 := NB297_336.out; have hcz146_0 : w140.cell? ⟨gb336, 0, none⟩ = some (.slice none 0 0) := (blk_cell BK336.out 0).trans rfl; have hcz146_1 : w140.cell? ⟨gb336, 1, none⟩ = some (.slice none 0 0) := (blk_cell BK336.out 1).trans rfl; have hfz146_0 := blk_frozen BK336.out 0; have hfz146_1 := blk_frozen BK336.out 1; obtain ⟨Ao147, co147, eo147⟩ := Kd.R_slice HO334.out; subst eo147))
             (try simp only [Act.put, List.setIfInBounds_toArray, List.set_cons_zero, List.set_cons_succ])
             go_cut [110] (fun v110 wc => ∃ (kq : Nat) (x110_122 : Bool), v110 = .bool x110_122 ∧ Aside0 (laws_FnExactMakeMoves.j2 kq t316 x110_122 t317 t318 = some true) ∧ Aside0 (kq ≤ kj80) ∧ Aside0 (Kd.R (Kd.int .i64) 3 wc w.heap.size (fun k_ => nS k_ Ao34 t275.length co34 ∧ nS k_ Ao38 t311.length co38 ∧ nS k_ Ao42 t312.length co42 ∧ nS k_ Ao48 t290.length co48 ∧ nS k_ Ao53 t293.length co53 ∧ nS k_ Ao141 t329.length co141 ∧ nS k_ Ao147 t332.length co147) (.slice Ao31 t272.length co31) t272) ∧ Aside0 (Kd.R (Kd.int .i64) 3 wc w.heap.size (fun k_ => nS k_ Ao31 t272.length co31 ∧ nS k_ Ao38 t311.length co38 ∧ nS k_ Ao42 t312.length co42 ∧ nS k_ Ao48 t290.length co48 ∧ nS k_ Ao53 t293.length co53 ∧ nS k_ Ao141 t329.length co141 ∧ nS k_ Ao147 t332.length co147) (.slice Ao34 t275.length co34) t275) ∧ Aside0 (Kd.R (Kd.int .i64) 3 wc w.heap.size (fun k_ => nS k_ Ao31 t272.length co31 ∧ nS k_ Ao34 t275.length co34 ∧ nS k_ Ao42 t312.length co42 ∧ nS k_ Ao48 t290.length co48 ∧ nS k_ Ao53 t293.length co53 ∧ nS k_ Ao141 t329.length co141 ∧ nS k_ Ao147 t332.length co147) (.slice Ao38 t311.length co38) t311) ∧ Aside0 (Kd.R (Kd.int .i64) 3 wc w.heap.size (fun k_ => nS k_ Ao31 t272.length co31 ∧ nS k_ Ao34 t275.length co34 ∧ nS k_ Ao38 t311.length co38 ∧ nS k_ Ao48 t290.length co48 ∧ nS k_ Ao53 t293.length co53 ∧ nS k_ Ao141 t329.length co141 ∧ nS k_ Ao147 t332.length co147) (.slice Ao42 t312.length co42) t312) ∧ Aside0 (Kd.R (Kd.int .i64) 3 wc w.heap.size (fun k_ => nS k_ Ao31 t272.length co31 ∧ nS k_ Ao34 t275.length co34 ∧ nS k_ Ao38 t311.length co38 ∧ nS k_ Ao42 t312.length co42 ∧ nS k_ Ao53 t293.length co53 ∧ nS k_ Ao141 t329.length co141 ∧ nS k_ Ao147 t332.length co147) (.slice Ao48 t290.length co48) t317) ∧ Aside0 (Kd.R (Kd.int .i64) 3 wc w.heap.size (fun k_ => nS k_ Ao31 t272.length co31 ∧ nS k_ Ao34 t275.length co34 ∧ nS k_ Ao38 t311.length co38 ∧ nS k_ Ao42 t312.length co42 ∧ nS k_ Ao48 t290.length co48 ∧ nS k_ Ao141 t329.length co141 ∧ nS k_ Ao147 t332.length co147) (.slice Ao53 t293.length co53) t318) ∧ Aside0 (Kd.R (Kd.int .i64) 3 wc w.heap.size (fun k_ => nS k_ Ao31 t272.length co31 ∧ nS k_ Ao34 t275.length co34 ∧ nS k_ Ao38 t311.length co38 ∧ nS k_ Ao42 t312.length co42 ∧ nS k_ Ao48 t290.length co48 ∧ nS k_ Ao53 t293.length co53 ∧ nS k_ Ao147 t332.length co147) (.slice Ao141 t329.length co141) t329) ∧ Aside0 (Kd.R (Kd.int .i64) 3 wc w.heap.size (fun k_ => nS k_ Ao31 t272.length co31 ∧ nS k_ Ao34 t275.length co34 ∧ nS k_ Ao38 t311.length co38 ∧ nS k_ Ao42 t312.length co42 ∧ nS k_ Ao48 t290.length co48 ∧ nS k_ Ao53 t293.length co53 ∧ nS k_ Ao141 t329.length co141) (.slice Ao147 t332.length co147) t332) ∧ Aside0 (wc.heap[gb260]? = some (.cells #[(.slice A0_0 l0_0.length c0_0), (.slice A0_1 l0_1.length c0_1)] 24 (0, 0))) ∧ Aside0 (wc.heap[gb279]? = some (.cells #[(.slice Ao31 t272.length co31), (.slice Ao34 t275.length co34)] 26 (0, 0))) ∧ Aside0 (wc.heap[gb286]? = some (.cells #[(.slice Ao38 t311.length co38), (.slice Ao42 t312.length co42)] 26 (0, 0))) ∧ Aside0 (wc.heap[gb297]? = some (.cells #[(.slice Ao48 t290.length co48), (.slice Ao53 t293.length co53)] 26 (0, 0))) ∧ Aside0 (wc.heap[gb336]? = some (.cells #[(.slice Ao141 t329.length co141), (.slice Ao147 t332.length co147)] 26 (0, 0))) ∧ Aside0 (Below w.heap.size w wc))
             case first =>
              have H := HC123.out
              clear HC123
              replace H := Option.bind_eq_some_iff.mp H
              obtain ⟨t337, A1480, H⟩ := H
              replace H : (if t337 = true then (laws_FnExactMakeMoves.j2 kj80 t316 (t335 != t278) t317 t318) else (laws_FnExactMakeMoves.j2 kj80 t316 true t317 t318)) = some true := H
              have A148 := Aside0.mk A1480
              clear A1480
              by_cases c149 : t337 = true
              ·subst c149
               have H1 : (laws_FnExactMakeMoves.j2 kj80 t316 (t335 != t278) t317 t318) = some true := by first | (rw [if_pos rfl] at H; exact H) | rfl
               clear H
               have H := H1
               clear H1
               have H' := Aside0.mk H
               clear H
               have hnb150 := NB336_260.out
               have hnc150 := NB260_336.out
               have hnb151 := NB336_279.out
               have hnc151 := NB279_336.out
               have hnb152 := NB336_286.out
               have hnc152 := NB286_336.out
               have hnb153 := NB336_297.out
               have hnc153 := NB297_336.out
               have hcz154_0 : w140.cell? ⟨gb336, 0, none⟩ = some (.slice none 0 0) := (blk_cell BK336.out 0).trans rfl
               have hcz154_1 : w140.cell? ⟨gb336, 1, none⟩ = some (.slice none 0 0) := (blk_cell BK336.out 1).trans rfl
               have hfz154_0 := blk_frozen BK336.out 0
               have hfz154_1 := blk_frozen BK336.out 1
               have hnb155 := NB279_260.out
               have hnc155 := NB260_279.out
               have hnb156 := NB279_286.out
               have hnc156 := NB286_279.out
               have hnb157 := NB279_297.out
               have hnc157 := NB297_279.out
               have hcz158_0 : w140.cell? ⟨gb279, 0, none⟩ = some (.slice Ao31 t272.length co31) := (blk_cell BK279.out 0).trans rfl
               have hcz158_1 : w140.cell? ⟨gb279, 1, none⟩ = some (.slice Ao34 t275.length co34) := (blk_cell BK279.out 1).trans rfl
               have hfz158_0 := blk_frozen BK279.out 0
               have hfz158_1 := blk_frozen BK279.out 1
               go_wp2_with (first | ((with_reducible refine gate_callee (f := 19) rfl ?_); refine goesL_ (some 104) rfl rfl Try.func19 (by kernel_rfl) rfl #[.agg #[.slice Ao141 t329.length co141, .slice Ao147 t332.length co147], .agg #[.slice Ao31 t272.length co31, .slice Ao34 t275.length co34]] rfl (by (try simp only [List.map_toArray, List.map_cons, List.map_nil]); first | done | rfl | (simp only [List.length_drop, List.length_take]; rfl)) ?_; (with_reducible refine (laws_eqVessels.calls kj80 _ _ t329 _ _ t332 _ _ t272 _ _ t275 true _ ?side1 ?side2 ?side3 ?side4 ?side5 ?side6 ?side7 ?side8 A148.out).mono ?_); (case side1 => refine (Kd.R_reads' (e := 3) (base := w.heap.size) (ok := fun k_ => ((((((((nS k_ Ao147 t332.length co147 ∧ nS k_ Ao31 t272.length co31) ∧ nS k_ Ao34 t275.length co34) ∧ nS k_ Ao38 t311.length co38) ∧ nS k_ Ao42 t312.length co42) ∧ nS k_ Ao48 t290.length co48) ∧ nS k_ Ao53 t293.length co53) ∧ nS k_ Ao136 t320.length co136) ∧ nS k_ Ao137 t323.length co137)) (n := t329.length) (c := co141) ?_).2.2; exact (by (with_reducible repeat (first | apply Kd.R_alloc | apply Kd.R_drewN | apply Kd.R_drew)); exact (Kd.R_mono (Kd.R_far (p := ⟨gb336, 1, none⟩) (Kd.R_far (p := ⟨gb336, 0, none⟩) (Kd.R_types HO331.out BK336.out (by decide)) (fun _ hk => hk.2) (.slice Ao141 t329.length co141)) (fun _ hk => hk.2) (.slice Ao147 t332.length co147)) (fun _ h_ => h_.1)))); (case side2 => exact (Kd.R_reads' HO331.out).2.1); (case side3 => refine (Kd.R_reads' (e := 3) (base := w.heap.size) (ok := fun k_ => ((((((((nS k_ Ao141 t329.length co141 ∧ nS k_ Ao31 t272.length co31) ∧ nS k_ Ao34 t275.length co34) ∧ nS k_ Ao38 t311.length co38) ∧ nS k_ Ao42 t312.length co42) ∧ nS k_ Ao48 t290.length co48) ∧ nS k_ Ao53 t293.length co53) ∧ nS k_ Ao136 t320.length co136) ∧ nS k_ Ao137 t323.length co137)) (n := t332.length) (c := co147) ?_).2.2; exact (by (with_reducible repeat (first | apply Kd.R_alloc | apply Kd.R_drewN | apply Kd.R_drew)); exact (Kd.R_mono (Kd.R_far (p := ⟨gb336, 1, none⟩) (Kd.R_far (p := ⟨gb336, 0, none⟩) (Kd.R_types HO334.out BK336.out (by decide)) (fun _ hk => hk.2) (.slice Ao141 t329.length co141)) (fun _ hk => hk.2) (.slice Ao147 t332.length co147)) (fun _ h_ => h_.1)))); (case side4 => exact (Kd.R_reads' HO334.out).2.1); (case side5 => refine (Kd.R_reads' (e := 3) (base := w.heap.size) (ok := fun k_ => (((((nS k_ Ao34 t275.length co34 ∧ (nS k_ Ao38 t311.length co38 ∧ (nS k_ Ao42 t312.length co42 ∧ (nS k_ Ao48 t290.length co48 ∧ nS k_ Ao53 t293.length co53)))) ∧ nS k_ Ao136 t320.length co136) ∧ nS k_ Ao137 t323.length co137) ∧ nS k_ Ao141 t329.length co141) ∧ nS k_ Ao147 t332.length co147)) (n := t272.length) (c := co31) ?_).2.2; exact (by (with_reducible repeat (first | apply Kd.R_alloc | apply Kd.R_drewN | apply Kd.R_drew)); exact (Kd.R_mono (Kd.R_far (p := ⟨gb336, 1, none⟩) (Kd.R_far (p := ⟨gb336, 0, none⟩) (Kd.R_types HO_280000.out BK336.out (by decide)) (fun _ hk => hk.2) (.slice Ao141 t329.length co141)) (fun _ hk => hk.2) (.slice Ao147 t332.length co147)) (fun _ h_ => h_.1)))); (case side6 => exact (Kd.R_reads' HO_280000.out).2.1); (case side7 => refine (Kd.R_reads' (e := 3) (base := w.heap.size) (ok := fun k_ => (((((nS k_ Ao31 t272.length co31 ∧ (nS k_ Ao38 t311.length co38 ∧ (nS k_ Ao42 t312.length co42 ∧ (nS k_ Ao48 t290.length co48 ∧ nS k_ Ao53 t293.length co53)))) ∧ nS k_ Ao136 t320.length co136) ∧ nS k_ Ao137 t323.length co137) ∧ nS k_ Ao141 t329.length co141) ∧ nS k_ Ao147 t332.length co147)) (n := t275.length) (c := co34) ?_).2.2; exact (by (with_reducible repeat (first | apply Kd.R_alloc | apply Kd.R_drewN | apply Kd.R_drew)); exact (Kd.R_mono (Kd.R_far (p := ⟨gb336, 1, none⟩) (Kd.R_far (p := ⟨gb336, 0, none⟩) (Kd.R_types HO_280001.out BK336.out (by decide)) (fun _ hk => hk.2) (.slice Ao141 t329.length co141)) (fun _ hk => hk.2) (.slice Ao147 t332.length co147)) (fun _ h_ => h_.1)))); (case side8 => exact (Kd.R_reads' HO_280001.out).2.1); rintro e w159 ⟨rfl, hb⟩; refine ⟨_, rfl, ?_⟩; replace HO_280000 := Aside0.mk (Kd.R_below (by (with_reducible repeat (first | apply Kd.R_alloc | apply Kd.R_drewN | apply Kd.R_drew)); exact (Kd.R_mono (Kd.R_far (p := ⟨gb336, 1, none⟩) (Kd.R_far (p := ⟨gb336, 0, none⟩) (Kd.R_types HO_280000.out BK336.out (by decide)) (fun _ hk => hk.2) (.slice Ao141 t329.length co141)) (fun _ hk => hk.2) (.slice Ao147 t332.length co147)) (fun _ h_ => h_.1))) hb); replace HO_280001 := Aside0.mk (Kd.R_below (by (with_reducible repeat (first | apply Kd.R_alloc | apply Kd.R_drewN | apply Kd.R_drew)); exact (Kd.R_mono (Kd.R_far (p := ⟨gb336, 1, none⟩) (Kd.R_far (p := ⟨gb336, 0, none⟩) (Kd.R_types HO_280001.out BK336.out (by decide)) (fun _ hk => hk.2) (.slice Ao141 t329.length co141)) (fun _ hk => hk.2) (.slice Ao147 t332.length co147)) (fun _ h_ => h_.1))) hb); replace HO_287000 := Aside0.mk (Kd.R_below (by (with_reducible repeat (first | apply Kd.R_alloc | apply Kd.R_drewN | apply Kd.R_drew)); exact (Kd.R_mono (Kd.R_far (p := ⟨gb336, 1, none⟩) (Kd.R_far (p := ⟨gb336, 0, none⟩) (Kd.R_types HO_287000.out BK336.out (by decide)) (fun _ hk => hk.2) (.slice Ao141 t329.length co141)) (fun _ hk => hk.2) (.slice Ao147 t332.length co147)) (fun _ h_ => h_.1))) hb); replace HO_287001 := Aside0.mk (Kd.R_below (by (with_reducible repeat (first | apply Kd.R_alloc | apply Kd.R_drewN | apply Kd.R_drew)); exact (Kd.R_mono (Kd.R_far (p := ⟨gb336, 1, none⟩) (Kd.R_far (p := ⟨gb336, 0, none⟩) (Kd.R_types HO_287001.out BK336.out (by decide)) (fun _ hk => hk.2) (.slice Ao141 t329.length co141)) (fun _ hk => hk.2) (.slice Ao147 t332.length co147)) (fun _ h_ => h_.1))) hb); replace HO_298000 := Aside0.mk (Kd.R_below (by (with_reducible repeat (first | apply Kd.R_alloc | apply Kd.R_drewN | apply Kd.R_drew)); exact (Kd.R_mono (Kd.R_far (p := ⟨gb336, 1, none⟩) (Kd.R_far (p := ⟨gb336, 0, none⟩) (Kd.R_types HO_298000.out BK336.out (by decide)) (fun _ hk => hk.2) (.slice Ao141 t329.length co141)) (fun _ hk => hk.2) (.slice Ao147 t332.length co147)) (fun _ h_ => h_.1))) hb); replace HO_298001 := Aside0.mk (Kd.R_below (by (with_reducible repeat (first | apply Kd.R_alloc | apply Kd.R_drewN | apply Kd.R_drew)); exact (Kd.R_mono (Kd.R_far (p := ⟨gb336, 1, none⟩) (Kd.R_far (p := ⟨gb336, 0, none⟩) (Kd.R_types HO_298001.out BK336.out (by decide)) (fun _ hk => hk.2) (.slice Ao141 t329.length co141)) (fun _ hk => hk.2) (.slice Ao147 t332.length co147)) (fun _ h_ => h_.1))) hb); replace HO322 := Aside0.mk (Kd.R_below (by (with_reducible repeat (first | apply Kd.R_alloc | apply Kd.R_drewN | apply Kd.R_drew)); exact (Kd.R_mono (Kd.R_far (p := ⟨gb336, 1, none⟩) (Kd.R_far (p := ⟨gb336, 0, none⟩) (Kd.R_types HO322.out BK336.out (by decide)) (fun _ hk => hk.2) (.slice Ao141 t329.length co141)) (fun _ hk => hk.2) (.slice Ao147 t332.length co147)) (fun _ h_ => h_.1))) hb); replace HO325 := Aside0.mk (Kd.R_below (by (with_reducible repeat (first | apply Kd.R_alloc | apply Kd.R_drewN | apply Kd.R_drew)); exact (Kd.R_mono (Kd.R_far (p := ⟨gb336, 1, none⟩) (Kd.R_far (p := ⟨gb336, 0, none⟩) (Kd.R_types HO325.out BK336.out (by decide)) (fun _ hk => hk.2) (.slice Ao141 t329.length co141)) (fun _ hk => hk.2) (.slice Ao147 t332.length co147)) (fun _ h_ => h_.1))) hb); replace HO328 := Aside0.mk (Kd.R_below (by (with_reducible repeat (first | apply Kd.R_alloc | apply Kd.R_drewN | apply Kd.R_drew)); exact (Kd.R_mono (Kd.R_far (p := ⟨gb336, 1, none⟩) (Kd.R_far (p := ⟨gb336, 0, none⟩) (Kd.R_types HO328.out BK336.out (by decide)) (fun _ hk => hk.2) (.slice Ao141 t329.length co141)) (fun _ hk => hk.2) (.slice Ao147 t332.length co147)) (fun _ h_ => h_.1))) hb); replace HO331 := Aside0.mk (Kd.R_below (by (with_reducible repeat (first | apply Kd.R_alloc | apply Kd.R_drewN | apply Kd.R_drew)); exact (Kd.R_mono (Kd.R_far (p := ⟨gb336, 1, none⟩) (Kd.R_far (p := ⟨gb336, 0, none⟩) (Kd.R_types HO331.out BK336.out (by decide)) (fun _ hk => hk.2) (.slice Ao141 t329.length co141)) (fun _ hk => hk.2) (.slice Ao147 t332.length co147)) (fun _ h_ => h_.1))) hb); replace HO334 := Aside0.mk (Kd.R_below (by (with_reducible repeat (first | apply Kd.R_alloc | apply Kd.R_drewN | apply Kd.R_drew)); exact (Kd.R_mono (Kd.R_far (p := ⟨gb336, 1, none⟩) (Kd.R_far (p := ⟨gb336, 0, none⟩) (Kd.R_types HO334.out BK336.out (by decide)) (fun _ hk => hk.2) (.slice Ao141 t329.length co141)) (fun _ hk => hk.2) (.slice Ao147 t332.length co147)) (fun _ h_ => h_.1))) hb); replace BK260 := Aside0.mk (blk_below (g := gb260) (o := .cells #[.slice A0_0 l0_0.length c0_0, .slice A0_1 l0_1.length c0_1] 24 (0, 0)) (xff NB260_336.out NB260_336.out BK260.out) hb); replace BK279 := Aside0.mk (blk_below (g := gb279) (o := .cells #[.slice Ao31 t272.length co31, .slice Ao34 t275.length co34] 26 (0, 0)) (xff NB279_336.out NB279_336.out BK279.out) hb); replace BK286 := Aside0.mk (blk_below (g := gb286) (o := .cells #[.slice Ao38 t311.length co38, .slice Ao42 t312.length co42] 26 (0, 0)) (xff NB286_336.out NB286_336.out BK286.out) hb); replace BK297 := Aside0.mk (blk_below (g := gb297) (o := .cells #[.slice Ao48 t290.length co48, .slice Ao53 t293.length co53] 26 (0, 0)) (xff NB297_336.out NB297_336.out BK297.out) hb); replace BK336 := Aside0.mk (blk_below (g := gb336) (o := .cells #[.slice Ao141 t329.length co141, .slice Ao147 t332.length co147] 26 (0, 0)) (by (with_reducible repeat (first | refine blk_drewN ?_ _ | refine blk_drew ?_ | refine blk_alloc ?_ _)); refine blk_put (cs := #[.slice Ao141 t329.length co141, .slice none 0 0]) ?_ 1 _ rfl; (with_reducible repeat (first | refine blk_drewN ?_ _ | refine blk_drew ?_ | refine blk_alloc ?_ _)); refine blk_put (cs := #[.slice none 0 0, .slice none 0 0]) ?_ 0 _ rfl; (with_reducible repeat (first | refine blk_drewN ?_ _ | refine blk_drew ?_ | refine blk_alloc ?_ _)); exact BK336.out) hb); replace HB := xp HB hb; (try clear hb); (try clear hb2); (try clear hk); (try clear hi)))
               go_meet
               case rel => exact ⟨_, ((t335 != t278)), (by first | rfl | (simp; done) | (simp [*]; done)), H', ⟨by have := HJ18.out; have := HJ80.out; first | omega | exact Nat.le_refl _⟩, ⟨by (try simp only [hl287000_80]); (try simp only [hl287001_80]); (with_reducible repeat (first | apply Kd.R_alloc | apply Kd.R_drewN | apply Kd.R_drew)); exact Kd.R_mono HO_280000.out (fun _ hk => ⟨hk.1.1.1.1.1, ⟨hk.1.1.1.1.2.1, ⟨hk.1.1.1.1.2.2.1, ⟨hk.1.1.1.1.2.2.2.1, ⟨hk.1.1.1.1.2.2.2.2, ⟨hk.1.2, hk.2⟩⟩⟩⟩⟩⟩)⟩, ⟨by (try simp only [hl287000_80]); (try simp only [hl287001_80]); (with_reducible repeat (first | apply Kd.R_alloc | apply Kd.R_drewN | apply Kd.R_drew)); exact Kd.R_mono HO_280001.out (fun _ hk => ⟨hk.1.1.1.1.1, ⟨hk.1.1.1.1.2.1, ⟨hk.1.1.1.1.2.2.1, ⟨hk.1.1.1.1.2.2.2.1, ⟨hk.1.1.1.1.2.2.2.2, ⟨hk.1.2, hk.2⟩⟩⟩⟩⟩⟩)⟩, ⟨by (try simp only [hl287000_80]); (try simp only [hl287001_80]); (with_reducible repeat (first | apply Kd.R_alloc | apply Kd.R_drewN | apply Kd.R_drew)); exact Kd.R_mono HO_287000.out (fun _ hk => ⟨hk.1.1.1.1.1, ⟨hk.1.1.1.1.2.1, ⟨hk.1.1.1.1.2.2.1, ⟨hk.1.1.1.1.2.2.2.1, ⟨hk.1.1.1.1.2.2.2.2, ⟨hk.1.2, hk.2⟩⟩⟩⟩⟩⟩)⟩, ⟨by (try simp only [hl287000_80]); (try simp only [hl287001_80]); (with_reducible repeat (first | apply Kd.R_alloc | apply Kd.R_drewN | apply Kd.R_drew)); exact Kd.R_mono HO_287001.out (fun _ hk => ⟨hk.1.1.1.1.1, ⟨hk.1.1.1.1.2.1, ⟨hk.1.1.1.1.2.2.1, ⟨hk.1.1.1.1.2.2.2.1, ⟨hk.1.1.1.1.2.2.2.2, ⟨hk.1.2, hk.2⟩⟩⟩⟩⟩⟩)⟩, ⟨by (try simp only [hl287000_80]); (try simp only [hl287001_80]); (with_reducible repeat (first | apply Kd.R_alloc | apply Kd.R_drewN | apply Kd.R_drew)); exact Kd.R_mono HO_298000.out (fun _ hk => ⟨hk.1.1.1.1.1, ⟨hk.1.1.1.1.2.1, ⟨hk.1.1.1.1.2.2.1, ⟨hk.1.1.1.1.2.2.2.1, ⟨hk.1.1.1.1.2.2.2.2, ⟨hk.1.2, hk.2⟩⟩⟩⟩⟩⟩)⟩, ⟨by (try simp only [hl287000_80]); (try simp only [hl287001_80]); (with_reducible repeat (first | apply Kd.R_alloc | apply Kd.R_drewN | apply Kd.R_drew)); exact Kd.R_mono HO_298001.out (fun _ hk => ⟨hk.1.1.1.1.1, ⟨hk.1.1.1.1.2.1, ⟨hk.1.1.1.1.2.2.1, ⟨hk.1.1.1.1.2.2.2.1, ⟨hk.1.1.1.1.2.2.2.2, ⟨hk.1.2, hk.2⟩⟩⟩⟩⟩⟩)⟩, ⟨by (try simp only [hl287000_80]); (try simp only [hl287001_80]); (with_reducible repeat (first | apply Kd.R_alloc | apply Kd.R_drewN | apply Kd.R_drew)); exact Kd.R_mono HO331.out (fun _ hk => ⟨hk.1.1.1.1.1.1.1.2, ⟨hk.1.1.1.1.1.1.2, ⟨hk.1.1.1.1.1.2, ⟨hk.1.1.1.1.2, ⟨hk.1.1.1.2, ⟨hk.1.1.2, hk.1.1.1.1.1.1.1.1⟩⟩⟩⟩⟩⟩)⟩, ⟨by (try simp only [hl287000_80]); (try simp only [hl287001_80]); (with_reducible repeat (first | apply Kd.R_alloc | apply Kd.R_drewN | apply Kd.R_drew)); exact Kd.R_mono HO334.out (fun _ hk => ⟨hk.1.1.1.1.1.1.1.2, ⟨hk.1.1.1.1.1.1.2, ⟨hk.1.1.1.1.1.2, ⟨hk.1.1.1.1.2, ⟨hk.1.1.1.2, ⟨hk.1.1.2, hk.1.1.1.1.1.1.1.1⟩⟩⟩⟩⟩⟩)⟩, ⟨by (try simp only [hl287000_80]); (try simp only [hl287001_80]); (with_reducible repeat (first | refine blk_drewN ?_ _ | refine blk_drew ?_ | refine blk_alloc ?_ _)); exact BK260.out⟩, ⟨by (try simp only [hl287000_80]); (try simp only [hl287001_80]); (with_reducible repeat (first | refine blk_drewN ?_ _ | refine blk_drew ?_ | refine blk_alloc ?_ _)); exact BK279.out⟩, ⟨by (try simp only [hl287000_80]); (try simp only [hl287001_80]); (with_reducible repeat (first | refine blk_drewN ?_ _ | refine blk_drew ?_ | refine blk_alloc ?_ _)); exact BK286.out⟩, ⟨by (try simp only [hl287000_80]); (try simp only [hl287001_80]); (with_reducible repeat (first | refine blk_drewN ?_ _ | refine blk_drew ?_ | refine blk_alloc ?_ _)); exact BK297.out⟩, ⟨by (try simp only [hl287000_80]); (try simp only [hl287001_80]); (with_reducible repeat (first | refine blk_drewN ?_ _ | refine blk_drew ?_ | refine blk_alloc ?_ _)); exact BK336.out⟩, ⟨xs HB.out⟩⟩
              ·replace c149 := Bool.eq_false_iff.mpr c149
               subst c149
               have H1 : (laws_FnExactMakeMoves.j2 kj80 t316 true t317 t318) = some true := by first | (rw [if_neg (show ¬ (false = true) by decide)] at H; exact H) | rfl
               clear H
               have H := H1
               clear H1
               have H' := Aside0.mk H
               clear H
               have hnb160 := NB336_260.out
               have hnc160 := NB260_336.out
               have hnb161 := NB336_279.out
               have hnc161 := NB279_336.out
               have hnb162 := NB336_286.out
               have hnc162 := NB286_336.out
               have hnb163 := NB336_297.out
               have hnc163 := NB297_336.out
               have hcz164_0 : w140.cell? ⟨gb336, 0, none⟩ = some (.slice none 0 0) := (blk_cell BK336.out 0).trans rfl
               have hcz164_1 : w140.cell? ⟨gb336, 1, none⟩ = some (.slice none 0 0) := (blk_cell BK336.out 1).trans rfl
               have hfz164_0 := blk_frozen BK336.out 0
               have hfz164_1 := blk_frozen BK336.out 1
               have hnb165 := NB279_260.out
               have hnc165 := NB260_279.out
               have hnb166 := NB279_286.out
               have hnc166 := NB286_279.out
               have hnb167 := NB279_297.out
               have hnc167 := NB297_279.out
               have hcz168_0 : w140.cell? ⟨gb279, 0, none⟩ = some (.slice Ao31 t272.length co31) := (blk_cell BK279.out 0).trans rfl
               have hcz168_1 : w140.cell? ⟨gb279, 1, none⟩ = some (.slice Ao34 t275.length co34) := (blk_cell BK279.out 1).trans rfl
               have hfz168_0 := blk_frozen BK279.out 0
               have hfz168_1 := blk_frozen BK279.out 1
               go_wp2_with (first | ((with_reducible refine gate_callee (f := 19) rfl ?_); refine goesL_ (some 104) rfl rfl Try.func19 (by kernel_rfl) rfl #[.agg #[.slice Ao141 t329.length co141, .slice Ao147 t332.length co147], .agg #[.slice Ao31 t272.length co31, .slice Ao34 t275.length co34]] rfl (by (try simp only [List.map_toArray, List.map_cons, List.map_nil]); first | done | rfl | (simp only [List.length_drop, List.length_take]; rfl)) ?_; (with_reducible refine (laws_eqVessels.calls kj80 _ _ t329 _ _ t332 _ _ t272 _ _ t275 false _ ?side1 ?side2 ?side3 ?side4 ?side5 ?side6 ?side7 ?side8 A148.out).mono ?_); (case side1 => refine (Kd.R_reads' (e := 3) (base := w.heap.size) (ok := fun k_ => ((((((((nS k_ Ao147 t332.length co147 ∧ nS k_ Ao31 t272.length co31) ∧ nS k_ Ao34 t275.length co34) ∧ nS k_ Ao38 t311.length co38) ∧ nS k_ Ao42 t312.length co42) ∧ nS k_ Ao48 t290.length co48) ∧ nS k_ Ao53 t293.length co53) ∧ nS k_ Ao136 t320.length co136) ∧ nS k_ Ao137 t323.length co137)) (n := t329.length) (c := co141) ?_).2.2; exact (by (with_reducible repeat (first | apply Kd.R_alloc | apply Kd.R_drewN | apply Kd.R_drew)); exact (Kd.R_mono (Kd.R_far (p := ⟨gb336, 1, none⟩) (Kd.R_far (p := ⟨gb336, 0, none⟩) (Kd.R_types HO331.out BK336.out (by decide)) (fun _ hk => hk.2) (.slice Ao141 t329.length co141)) (fun _ hk => hk.2) (.slice Ao147 t332.length co147)) (fun _ h_ => h_.1)))); (case side2 => exact (Kd.R_reads' HO331.out).2.1); (case side3 => refine (Kd.R_reads' (e := 3) (base := w.heap.size) (ok := fun k_ => ((((((((nS k_ Ao141 t329.length co141 ∧ nS k_ Ao31 t272.length co31) ∧ nS k_ Ao34 t275.length co34) ∧ nS k_ Ao38 t311.length co38) ∧ nS k_ Ao42 t312.length co42) ∧ nS k_ Ao48 t290.length co48) ∧ nS k_ Ao53 t293.length co53) ∧ nS k_ Ao136 t320.length co136) ∧ nS k_ Ao137 t323.length co137)) (n := t332.length) (c := co147) ?_).2.2; exact (by (with_reducible repeat (first | apply Kd.R_alloc | apply Kd.R_drewN | apply Kd.R_drew)); exact (Kd.R_mono (Kd.R_far (p := ⟨gb336, 1, none⟩) (Kd.R_far (p := ⟨gb336, 0, none⟩) (Kd.R_types HO334.out BK336.out (by decide)) (fun _ hk => hk.2) (.slice Ao141 t329.length co141)) (fun _ hk => hk.2) (.slice Ao147 t332.length co147)) (fun _ h_ => h_.1)))); (case side4 => exact (Kd.R_reads' HO334.out).2.1); (case side5 => refine (Kd.R_reads' (e := 3) (base := w.heap.size) (ok := fun k_ => (((((nS k_ Ao34 t275.length co34 ∧ (nS k_ Ao38 t311.length co38 ∧ (nS k_ Ao42 t312.length co42 ∧ (nS k_ Ao48 t290.length co48 ∧ nS k_ Ao53 t293.length co53)))) ∧ nS k_ Ao136 t320.length co136) ∧ nS k_ Ao137 t323.length co137) ∧ nS k_ Ao141 t329.length co141) ∧ nS k_ Ao147 t332.length co147)) (n := t272.length) (c := co31) ?_).2.2; exact (by (with_reducible repeat (first | apply Kd.R_alloc | apply Kd.R_drewN | apply Kd.R_drew)); exact (Kd.R_mono (Kd.R_far (p := ⟨gb336, 1, none⟩) (Kd.R_far (p := ⟨gb336, 0, none⟩) (Kd.R_types HO_280000.out BK336.out (by decide)) (fun _ hk => hk.2) (.slice Ao141 t329.length co141)) (fun _ hk => hk.2) (.slice Ao147 t332.length co147)) (fun _ h_ => h_.1)))); (case side6 => exact (Kd.R_reads' HO_280000.out).2.1); (case side7 => refine (Kd.R_reads' (e := 3) (base := w.heap.size) (ok := fun k_ => (((((nS k_ Ao31 t272.length co31 ∧ (nS k_ Ao38 t311.length co38 ∧ (nS k_ Ao42 t312.length co42 ∧ (nS k_ Ao48 t290.length co48 ∧ nS k_ Ao53 t293.length co53)))) ∧ nS k_ Ao136 t320.length co136) ∧ nS k_ Ao137 t323.length co137) ∧ nS k_ Ao141 t329.length co141) ∧ nS k_ Ao147 t332.length co147)) (n := t275.length) (c := co34) ?_).2.2; exact (by (with_reducible repeat (first | apply Kd.R_alloc | apply Kd.R_drewN | apply Kd.R_drew)); exact (Kd.R_mono (Kd.R_far (p := ⟨gb336, 1, none⟩) (Kd.R_far (p := ⟨gb336, 0, none⟩) (Kd.R_types HO_280001.out BK336.out (by decide)) (fun _ hk => hk.2) (.slice Ao141 t329.length co141)) (fun _ hk => hk.2) (.slice Ao147 t332.length co147)) (fun _ h_ => h_.1)))); (case side8 => exact (Kd.R_reads' HO_280001.out).2.1); rintro e w169 ⟨rfl, hb⟩; refine ⟨_, rfl, ?_⟩; replace HO_280000 := Aside0.mk (Kd.R_below (by (with_reducible repeat (first | apply Kd.R_alloc | apply Kd.R_drewN | apply Kd.R_drew)); exact (Kd.R_mono (Kd.R_far (p := ⟨gb336, 1, none⟩) (Kd.R_far (p := ⟨gb336, 0, none⟩) (Kd.R_types HO_280000.out BK336.out (by decide)) (fun _ hk => hk.2) (.slice Ao141 t329.length co141)) (fun _ hk => hk.2) (.slice Ao147 t332.length co147)) (fun _ h_ => h_.1))) hb); replace HO_280001 := Aside0.mk (Kd.R_below (by (with_reducible repeat (first | apply Kd.R_alloc | apply Kd.R_drewN | apply Kd.R_drew)); exact (Kd.R_mono (Kd.R_far (p := ⟨gb336, 1, none⟩) (Kd.R_far (p := ⟨gb336, 0, none⟩) (Kd.R_types HO_280001.out BK336.out (by decide)) (fun _ hk => hk.2) (.slice Ao141 t329.length co141)) (fun _ hk => hk.2) (.slice Ao147 t332.length co147)) (fun _ h_ => h_.1))) hb); replace HO_287000 := Aside0.mk (Kd.R_below (by (with_reducible repeat (first | apply Kd.R_alloc | apply Kd.R_drewN | apply Kd.R_drew)); exact (Kd.R_mono (Kd.R_far (p := ⟨gb336, 1, none⟩) (Kd.R_far (p := ⟨gb336, 0, none⟩) (Kd.R_types HO_287000.out BK336.out (by decide)) (fun _ hk => hk.2) (.slice Ao141 t329.length co141)) (fun _ hk => hk.2) (.slice Ao147 t332.length co147)) (fun _ h_ => h_.1))) hb); replace HO_287001 := Aside0.mk (Kd.R_below (by (with_reducible repeat (first | apply Kd.R_alloc | apply Kd.R_drewN | apply Kd.R_drew)); exact (Kd.R_mono (Kd.R_far (p := ⟨gb336, 1, none⟩) (Kd.R_far (p := ⟨gb336, 0, none⟩) (Kd.R_types HO_287001.out BK336.out (by decide)) (fun _ hk => hk.2) (.slice Ao141 t329.length co141)) (fun _ hk => hk.2) (.slice Ao147 t332.length co147)) (fun _ h_ => h_.1))) hb); replace HO_298000 := Aside0.mk (Kd.R_below (by (with_reducible repeat (first | apply Kd.R_alloc | apply Kd.R_drewN | apply Kd.R_drew)); exact (Kd.R_mono (Kd.R_far (p := ⟨gb336, 1, none⟩) (Kd.R_far (p := ⟨gb336, 0, none⟩) (Kd.R_types HO_298000.out BK336.out (by decide)) (fun _ hk => hk.2) (.slice Ao141 t329.length co141)) (fun _ hk => hk.2) (.slice Ao147 t332.length co147)) (fun _ h_ => h_.1))) hb); replace HO_298001 := Aside0.mk (Kd.R_below (by (with_reducible repeat (first | apply Kd.R_alloc | apply Kd.R_drewN | apply Kd.R_drew)); exact (Kd.R_mono (Kd.R_far (p := ⟨gb336, 1, none⟩) (Kd.R_far (p := ⟨gb336, 0, none⟩) (Kd.R_types HO_298001.out BK336.out (by decide)) (fun _ hk => hk.2) (.slice Ao141 t329.length co141)) (fun _ hk => hk.2) (.slice Ao147 t332.length co147)) (fun _ h_ => h_.1))) hb); replace HO322 := Aside0.mk (Kd.R_below (by (with_reducible repeat (first | apply Kd.R_alloc | apply Kd.R_drewN | apply Kd.R_drew)); exact (Kd.R_mono (Kd.R_far (p := ⟨gb336, 1, none⟩) (Kd.R_far (p := ⟨gb336, 0, none⟩) (Kd.R_types HO322.out BK336.out (by decide)) (fun _ hk => hk.2) (.slice Ao141 t329.length co141)) (fun _ hk => hk.2) (.slice Ao147 t332.length co147)) (fun _ h_ => h_.1))) hb); replace HO325 := Aside0.mk (Kd.R_below (by (with_reducible repeat (first | apply Kd.R_alloc | apply Kd.R_drewN | apply Kd.R_drew)); exact (Kd.R_mono (Kd.R_far (p := ⟨gb336, 1, none⟩) (Kd.R_far (p := ⟨gb336, 0, none⟩) (Kd.R_types HO325.out BK336.out (by decide)) (fun _ hk => hk.2) (.slice Ao141 t329.length co141)) (fun _ hk => hk.2) (.slice Ao147 t332.length co147)) (fun _ h_ => h_.1))) hb); replace HO328 := Aside0.mk (Kd.R_below (by (with_reducible repeat (first | apply Kd.R_alloc | apply Kd.R_drewN | apply Kd.R_drew)); exact (Kd.R_mono (Kd.R_far (p := ⟨gb336, 1, none⟩) (Kd.R_far (p := ⟨gb336, 0, none⟩) (Kd.R_types HO328.out BK336.out (by decide)) (fun _ hk => hk.2) (.slice Ao141 t329.length co141)) (fun _ hk => hk.2) (.slice Ao147 t332.length co147)) (fun _ h_ => h_.1))) hb); replace HO331 := Aside0.mk (Kd.R_below (by (with_reducible repeat (first | apply Kd.R_alloc | apply Kd.R_drewN | apply Kd.R_drew)); exact (Kd.R_mono (Kd.R_far (p := ⟨gb336, 1, none⟩) (Kd.R_far (p := ⟨gb336, 0, none⟩) (Kd.R_types HO331.out BK336.out (by decide)) (fun _ hk => hk.2) (.slice Ao141 t329.length co141)) (fun _ hk => hk.2) (.slice Ao147 t332.length co147)) (fun _ h_ => h_.1))) hb); replace HO334 := Aside0.mk (Kd.R_below (by (with_reducible repeat (first | apply Kd.R_alloc | apply Kd.R_drewN | apply Kd.R_drew)); exact (Kd.R_mono (Kd.R_far (p := ⟨gb336, 1, none⟩) (Kd.R_far (p := ⟨gb336, 0, none⟩) (Kd.R_types HO334.out BK336.out (by decide)) (fun _ hk => hk.2) (.slice Ao141 t329.length co141)) (fun _ hk => hk.2) (.slice Ao147 t332.length co147)) (fun _ h_ => h_.1))) hb); replace BK260 := Aside0.mk (blk_below (g := gb260) (o := .cells #[.slice A0_0 l0_0.length c0_0, .slice A0_1 l0_1.length c0_1] 24 (0, 0)) (xff NB260_336.out NB260_336.out BK260.out) hb); replace BK279 := Aside0.mk (blk_below (g := gb279) (o := .cells #[.slice Ao31 t272.length co31, .slice Ao34 t275.length co34] 26 (0, 0)) (xff NB279_336.out NB279_336.out BK279.out) hb); replace BK286 := Aside0.mk (blk_below (g := gb286) (o := .cells #[.slice Ao38 t311.length co38, .slice Ao42 t312.length co42] 26 (0, 0)) (xff NB286_336.out NB286_336.out BK286.out) hb); replace BK297 := Aside0.mk (blk_below (g := gb297) (o := .cells #[.slice Ao48 t290.length co48, .slice Ao53 t293.length co53] 26 (0, 0)) (xff NB297_336.out NB297_336.out BK297.out) hb); replace BK336 := Aside0.mk (blk_below (g := gb336) (o := .cells #[.slice Ao141 t329.length co141, .slice Ao147 t332.length co147] 26 (0, 0)) (by (with_reducible repeat (first | refine blk_drewN ?_ _ | refine blk_drew ?_ | refine blk_alloc ?_ _)); refine blk_put (cs := #[.slice Ao141 t329.length co141, .slice none 0 0]) ?_ 1 _ rfl; (with_reducible repeat (first | refine blk_drewN ?_ _ | refine blk_drew ?_ | refine blk_alloc ?_ _)); refine blk_put (cs := #[.slice none 0 0, .slice none 0 0]) ?_ 0 _ rfl; (with_reducible repeat (first | refine blk_drewN ?_ _ | refine blk_drew ?_ | refine blk_alloc ?_ _)); exact BK336.out) hb); replace HB := xp HB hb; (try clear hb); (try clear hb2); (try clear hk); (try clear hi)))
               go_meet
               case rel => exact ⟨_, (true), (by first | rfl | (simp; done) | (simp [*]; done)), H', ⟨by have := HJ18.out; have := HJ80.out; first | omega | exact Nat.le_refl _⟩, ⟨by (try simp only [hl287000_80]); (try simp only [hl287001_80]); (with_reducible repeat (first | apply Kd.R_alloc | apply Kd.R_drewN | apply Kd.R_drew)); exact Kd.R_mono HO_280000.out (fun _ hk => ⟨hk.1.1.1.1.1, ⟨hk.1.1.1.1.2.1, ⟨hk.1.1.1.1.2.2.1, ⟨hk.1.1.1.1.2.2.2.1, ⟨hk.1.1.1.1.2.2.2.2, ⟨hk.1.2, hk.2⟩⟩⟩⟩⟩⟩)⟩, ⟨by (try simp only [hl287000_80]); (try simp only [hl287001_80]); (with_reducible repeat (first | apply Kd.R_alloc | apply Kd.R_drewN | apply Kd.R_drew)); exact Kd.R_mono HO_280001.out (fun _ hk => ⟨hk.1.1.1.1.1, ⟨hk.1.1.1.1.2.1, ⟨hk.1.1.1.1.2.2.1, ⟨hk.1.1.1.1.2.2.2.1, ⟨hk.1.1.1.1.2.2.2.2, ⟨hk.1.2, hk.2⟩⟩⟩⟩⟩⟩)⟩, ⟨by (try simp only [hl287000_80]); (try simp only [hl287001_80]); (with_reducible repeat (first | apply Kd.R_alloc | apply Kd.R_drewN | apply Kd.R_drew)); exact Kd.R_mono HO_287000.out (fun _ hk => ⟨hk.1.1.1.1.1, ⟨hk.1.1.1.1.2.1, ⟨hk.1.1.1.1.2.2.1, ⟨hk.1.1.1.1.2.2.2.1, ⟨hk.1.1.1.1.2.2.2.2, ⟨hk.1.2, hk.2⟩⟩⟩⟩⟩⟩)⟩, ⟨by (try simp only [hl287000_80]); (try simp only [hl287001_80]); (with_reducible repeat (first | apply Kd.R_alloc | apply Kd.R_drewN | apply Kd.R_drew)); exact Kd.R_mono HO_287001.out (fun _ hk => ⟨hk.1.1.1.1.1, ⟨hk.1.1.1.1.2.1, ⟨hk.1.1.1.1.2.2.1, ⟨hk.1.1.1.1.2.2.2.1, ⟨hk.1.1.1.1.2.2.2.2, ⟨hk.1.2, hk.2⟩⟩⟩⟩⟩⟩)⟩, ⟨by (try simp only [hl287000_80]); (try simp only [hl287001_80]); (with_reducible repeat (first | apply Kd.R_alloc | apply Kd.R_drewN | apply Kd.R_drew)); exact Kd.R_mono HO_298000.out (fun _ hk => ⟨hk.1.1.1.1.1, ⟨hk.1.1.1.1.2.1, ⟨hk.1.1.1.1.2.2.1, ⟨hk.1.1.1.1.2.2.2.1, ⟨hk.1.1.1.1.2.2.2.2, ⟨hk.1.2, hk.2⟩⟩⟩⟩⟩⟩)⟩, ⟨by (try simp only [hl287000_80]); (try simp only [hl287001_80]); (with_reducible repeat (first | apply Kd.R_alloc | apply Kd.R_drewN | apply Kd.R_drew)); exact Kd.R_mono HO_298001.out (fun _ hk => ⟨hk.1.1.1.1.1, ⟨hk.1.1.1.1.2.1, ⟨hk.1.1.1.1.2.2.1, ⟨hk.1.1.1.1.2.2.2.1, ⟨hk.1.1.1.1.2.2.2.2, ⟨hk.1.2, hk.2⟩⟩⟩⟩⟩⟩)⟩, ⟨by (try simp only [hl287000_80]); (try simp only [hl287001_80]); (with_reducible repeat (first | apply Kd.R_alloc | apply Kd.R_drewN | apply Kd.R_drew)); exact Kd.R_mono HO331.out (fun _ hk => ⟨hk.1.1.1.1.1.1.1.2, ⟨hk.1.1.1.1.1.1.2, ⟨hk.1.1.1.1.1.2, ⟨hk.1.1.1.1.2, ⟨hk.1.1.1.2, ⟨hk.1.1.2, hk.1.1.1.1.1.1.1.1⟩⟩⟩⟩⟩⟩)⟩, ⟨by (try simp only [hl287000_80]); (try simp only [hl287001_80]); (with_reducible repeat (first | apply Kd.R_alloc | apply Kd.R_drewN | apply Kd.R_drew)); exact Kd.R_mono HO334.out (fun _ hk => ⟨hk.1.1.1.1.1.1.1.2, ⟨hk.1.1.1.1.1.1.2, ⟨hk.1.1.1.1.1.2, ⟨hk.1.1.1.1.2, ⟨hk.1.1.1.2, ⟨hk.1.1.2, hk.1.1.1.1.1.1.1.1⟩⟩⟩⟩⟩⟩)⟩, ⟨by (try simp only [hl287000_80]); (try simp only [hl287001_80]); (with_reducible repeat (first | refine blk_drewN ?_ _ | refine blk_drew ?_ | refine blk_alloc ?_ _)); exact BK260.out⟩, ⟨by (try simp only [hl287000_80]); (try simp only [hl287001_80]); (with_reducible repeat (first | refine blk_drewN ?_ _ | refine blk_drew ?_ | refine blk_alloc ?_ _)); exact BK279.out⟩, ⟨by (try simp only [hl287000_80]); (try simp only [hl287001_80]); (with_reducible repeat (first | refine blk_drewN ?_ _ | refine blk_drew ?_ | refine blk_alloc ?_ _)); exact BK286.out⟩, ⟨by (try simp only [hl287000_80]); (try simp only [hl287001_80]); (with_reducible repeat (first | refine blk_drewN ?_ _ | refine blk_drew ?_ | refine blk_alloc ?_ _)); exact BK297.out⟩, ⟨by (try simp only [hl287000_80]); (try simp only [hl287001_80]); (with_reducible repeat (first | refine blk_drewN ?_ _ | refine blk_drew ?_ | refine blk_alloc ?_ _)); exact BK336.out⟩, ⟨xs HB.out⟩⟩
             case rest =>
              clear HC123
              try clear c1
              try clear c2
              try clear p2
              try clear c3
              try clear c4
              try clear c4b0
              try clear c5
              try clear c6
              try clear c7
              try clear c8
              try clear c9
              try clear c9b0
              try clear c10
              try clear c11
              try clear c12
              try clear c13
              try clear c14
              try clear c15
              try clear c16
              try clear c17
              try clear c19
              try clear c20
              try clear c21
              try clear c29
              try clear c31
              try clear c32
              try clear c33
              try clear c34
              try clear c35
              try clear c36
              try clear c39
              try clear c40
              try clear c49
              try clear c50
              try clear c51
              try clear c55
              try clear c56
              try clear c57
              try clear c58
              try clear c60
              try clear c61
              try clear c64
              try clear c65
              try clear c66
              try clear c68
              try clear c69
              try clear c72
              try clear c75
              try clear c78
              try clear c90
              try clear c91
              try clear c92
              try clear c96
              try clear c96b0
              try clear c98
              try clear c99
              try clear c100
              try clear c101
              try clear c103
              try clear c104
              try clear c107
              try clear c108
              try clear c109
              try clear c111
              try clear c112
              try clear c115
              try clear c118
              try clear c118b0
              try clear c119
              try clear c119b0
              try clear c119b1
              try clear c124
              try clear c125
              try clear c126
              try clear c131
              try clear c132
              try clear c142
              try clear c143
              try clear c144
              try clear c145
              try clear c149
              try clear c150
              try clear c151
              try clear c152
              try clear c153
              try clear c155
              try clear c156
              try clear c157
              try clear c160
              try clear c161
              try clear c162
              try clear c163
              try clear c165
              try clear c166
              try clear c167
              try clear hcz102_0
              try clear hcz102_1
              try clear hcz105_0
              try clear hcz105_1
              try clear hcz110_0
              try clear hcz110_1
              try clear hcz113_0
              try clear hcz113_1
              try clear hcz11_0
              try clear hcz11_1
              try clear hcz127_0
              try clear hcz127_1
              try clear hcz129_0
              try clear hcz129_1
              try clear hcz133_0
              try clear hcz133_1
              try clear hcz146_0
              try clear hcz146_1
              try clear hcz154_0
              try clear hcz154_1
              try clear hcz158_0
              try clear hcz158_1
              try clear hcz164_0
              try clear hcz164_1
              try clear hcz168_0
              try clear hcz168_1
              try clear hcz21_0
              try clear hcz21_1
              try clear hcz23_0
              try clear hcz23_1
              try clear hcz33_0
              try clear hcz33_1
              try clear hcz35_0
              try clear hcz35_1
              try clear hcz41_0
              try clear hcz41_1
              try clear hcz44_0
              try clear hcz44_1
              try clear hcz52_0
              try clear hcz52_1
              try clear hcz59_0
              try clear hcz59_1
              try clear hcz62_0
              try clear hcz62_1
              try clear hcz67_0
              try clear hcz67_1
              try clear hcz6_0
              try clear hcz6_1
              try clear hcz70_0
              try clear hcz70_1
              try clear hcz93_0
              try clear hcz93_1
              try clear hfz102_0
              try clear hfz102_1
              try clear hfz105_0
              try clear hfz105_1
              try clear hfz110_0
              try clear hfz110_1
              try clear hfz113_0
              try clear hfz113_1
              try clear hfz11_0
              try clear hfz11_1
              try clear hfz127_0
              try clear hfz127_1
              try clear hfz129_0
              try clear hfz129_1
              try clear hfz133_0
              try clear hfz133_1
              try clear hfz146_0
              try clear hfz146_1
              try clear hfz154_0
              try clear hfz154_1
              try clear hfz158_0
              try clear hfz158_1
              try clear hfz164_0
              try clear hfz164_1
              try clear hfz168_0
              try clear hfz168_1
              try clear hfz21_0
              try clear hfz21_1
              try clear hfz23_0
              try clear hfz23_1
              try clear hfz33_0
              try clear hfz33_1
              try clear hfz35_0
              try clear hfz35_1
              try clear hfz41_0
              try clear hfz41_1
              try clear hfz44_0
              try clear hfz44_1
              try clear hfz52_0
              try clear hfz52_1
              try clear hfz59_0
              try clear hfz59_1
              try clear hfz62_0
              try clear hfz62_1
              try clear hfz67_0
              try clear hfz67_1
              try clear hfz6_0
              try clear hfz6_1
              try clear hfz70_0
              try clear hfz70_1
              try clear hfz93_0
              try clear hfz93_1
              try clear p2
              obtain ⟨kq, x110_122, rfl, HA, HJ122, HO_280000, HO_280001, HO_287000, HO_287001, HO_298000, HO_298001, HO_337000, HO_337001, BK260, BK279, BK286, BK297, BK336, HB⟩ := hcut
              have hl298000_122 := (Kd.R_reads' HO_298000.out).1
              rw [hl298000_122] at HO_298000
              (try simp only [hl298000_122])
              (try simp only [hl298000_122] at BK260)
              (try simp only [hl298000_122] at BK279)
              (try simp only [hl298000_122] at BK286)
              (try simp only [hl298000_122] at BK297)
              (try simp only [hl298000_122] at BK336)
              (try simp only [hl298000_122] at HO_280000)
              (try simp only [hl298000_122] at HO_280001)
              (try simp only [hl298000_122] at HO_287000)
              (try simp only [hl298000_122] at HO_287001)
              (try simp only [hl298000_122] at HO_298001)
              (try simp only [hl298000_122] at HO_337000)
              (try simp only [hl298000_122] at HO_337001)
              have hl298001_122 := (Kd.R_reads' HO_298001.out).1
              rw [hl298001_122] at HO_298001
              (try simp only [hl298001_122])
              (try simp only [hl298001_122] at BK260)
              (try simp only [hl298001_122] at BK279)
              (try simp only [hl298001_122] at BK286)
              (try simp only [hl298001_122] at BK297)
              (try simp only [hl298001_122] at BK336)
              (try simp only [hl298001_122] at HO_280000)
              (try simp only [hl298001_122] at HO_280001)
              (try simp only [hl298001_122] at HO_287000)
              (try simp only [hl298001_122] at HO_287001)
              (try simp only [hl298001_122] at HO_298000)
              (try simp only [hl298001_122] at HO_337000)
              (try simp only [hl298001_122] at HO_337001)
              cases kq with
              | zero => exact absurd HA.out (by simp [laws_FnExactMakeMoves.j2])
              | succ kj122 =>
               have H := HA.out
               clear HA
               simp only [laws_FnExactMakeMoves.j2] at H
               by_cases c170 : x110_122 = true
               ·subst c170
                have H1 : (some false) = some true := by first | (rw [if_pos rfl] at H; exact H) | rfl
                clear H
                have H := H1
                clear H1
                exact absurd H (by simp)
               ·replace c170 := Bool.eq_false_iff.mpr c170
                subst c170
                have H1 : ((laws_heldVessels.f kj122 t317 t318 1).bind fun t338 => (if t338 < 0 then (some false) else (if t338 = t316 then (some true) else (some false)))) = some true := by first | (rw [if_neg (show ¬ (false = true) by decide)] at H; exact H) | rfl
                clear H
                have H := H1
                clear H1
                replace H := Option.bind_eq_some_iff.mp H
                obtain ⟨t338, A1710, H⟩ := H
                replace H : (if t338 < 0 then (some false) else (if t338 = t316 then (some true) else (some false))) = some true := H
                have A171 := Aside0.mk A1710
                clear A1710
                by_cases c172 : t338 < 0
                ·rw [if_pos c172] at H
                 have c172b0 : decide (t338 < 0) = true := decide_eq_true c172
                 clear c172
                 exact absurd H (by simp)
                ·rw [if_neg c172] at H
                 have c172b0 : decide (t338 < 0) = false := decide_eq_false c172
                 clear c172
                 by_cases c173 : t338 = t316
                 ·rw [if_pos c173] at H
                  have c173b0 : (t338 == t316) = true := beq_iff_eq.mpr c173
                  have c173b1 : (t338 != t316) = false := bne_eq_false_iff_eq.mpr c173
                  clear c173
                  clear H
                  have hnb174 := NB297_260.out
                  have hnc174 := NB260_297.out
                  have hnb175 := NB297_279.out
                  have hnc175 := NB279_297.out
                  have hnb176 := NB297_286.out
                  have hnc176 := NB286_297.out
                  have hnb177 := NB297_336.out
                  have hnc177 := NB336_297.out
                  have hcz178_0 : wc.cell? ⟨gb297, 0, none⟩ = some (.slice Ao48 t317.length co48) := (blk_cell BK297.out 0).trans rfl
                  have hcz178_1 : wc.cell? ⟨gb297, 1, none⟩ = some (.slice Ao53 t318.length co53) := (blk_cell BK297.out 1).trans rfl
                  have hfz178_0 := blk_frozen BK297.out 0
                  have hfz178_1 := blk_frozen BK297.out 1
                  go_wp2_with (first | ((with_reducible refine gate_callee (f := 21) rfl ?_); refine goesL_ (some 113) rfl rfl Try.func21 (by kernel_rfl) rfl #[.agg #[.slice Ao48 t317.length co48, .slice Ao53 t318.length co53], .int .i64 1] rfl (by (try simp only [List.map_toArray, List.map_cons, List.map_nil]); first | done | rfl | (simp only [List.length_drop, List.length_take]; rfl)) ?_; (with_reducible refine (laws_heldVessels.calls kj122 _ _ t317 _ _ t318 1 t338 _ ?side1 ?side2 ?side3 ?side4 A171.out).mono ?_); (case side1 => exact xd ((Kd.R_reads' HO_298000.out).2.2)); (case side2 => exact (Kd.R_reads' HO_298000.out).2.1); (case side3 => exact xd ((Kd.R_reads' HO_298001.out).2.2)); (case side4 => exact (Kd.R_reads' HO_298001.out).2.1); rintro e w179 ⟨rfl, hb⟩; refine ⟨_, rfl, ?_⟩; replace HO_280000 := xq HO_280000 hb; replace HO_280001 := xq HO_280001 hb; replace HO_287000 := xq HO_287000 hb; replace HO_287001 := xq HO_287001 hb; replace HO_298000 := xq HO_298000 hb; replace HO_298001 := xq HO_298001 hb; replace HO_337000 := xq HO_337000 hb; replace HO_337001 := xq HO_337001 hb; replace BK260 := xk BK260 hb; replace BK279 := xk BK279 hb; replace BK286 := xk BK286 hb; replace BK297 := xk BK297 hb; replace BK336 := xk BK336 hb; replace HB := xp HB hb; (try clear hb); (try clear hb2); (try clear hk); (try clear hi)))
                  go_ret
                  exact ⟨by first | rfl | (simp [errW_none, errW_some] <;> rfl) | (simp [*, errW_none, errW_some] <;> rfl), by repeat (first | (with_reducible first | exact HB.out | apply below_alloc | apply pw_below_drewN | apply below_drew1 | refine below_set ?_ GE260.out | refine below_set ?_ GE279.out | refine below_set ?_ GE286.out | refine below_set ?_ GE297.out | refine below_set ?_ GE336.out) | exact HB.out)⟩
                 ·rw [if_neg c173] at H
                  have c173b0 : (t338 == t316) = false := beq_eq_false_iff_ne.mpr c173
                  have c173b1 : (t338 != t316) = true := bne_iff_ne.mpr c173
                  exact absurd H (by simp)
            ·rw [if_neg c119] at H
             have c119b0 : (t319 == t316) = false := beq_eq_false_iff_ne.mpr c119
             have c119b1 : (t319 != t316) = true := bne_iff_ne.mpr c119
             exact absurd H (by simp)
       ·replace c78 := Bool.eq_false_iff.mpr c78
        subst c78
        have H1 : (some false) = some true := by first | (rw [if_neg (show ¬ (false = true) by decide)] at H; exact H) | rfl
        clear H
        have H := H1
        clear H1
        exact absurd H (by simp)
      ·replace c75 := Bool.eq_false_iff.mpr c75
       subst c75
       have H1 : (some false) = some true := by first | (rw [if_neg (show ¬ (false = true) by decide)] at H; exact H) | rfl
       clear H
       have H := H1
       clear H1
       exact absurd H (by simp)

end Go.Proofs.Ytobkbpoamicjgaa.PFnExactMakeMoves

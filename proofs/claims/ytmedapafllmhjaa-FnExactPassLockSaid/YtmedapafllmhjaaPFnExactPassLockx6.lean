/- Lean functions of the Go functions that the law FnExactPassLock reaches, and the proofs that the calls come to what they say (made by program). -/
import Derived.Test.YtmedapafllmhjaaAb
import Derived.Test.YtmedapafllmhjaaPFnExactPassLockx0
import Derived.Test.YtmedapafllmhjaaPFnExactPassLockx1
import Derived.Test.YtmedapafllmhjaaPFnExactPassLockx2
import Derived.Test.YtmedapafllmhjaaPFnExactPassLockx3
import Derived.Test.YtmedapafllmhjaaPFnExactPassLockx5
namespace Go.Proofs.Ytmedapafllmhjaa.PFnExactPassLock
open Go.RowKit Go.Proofs.YtmedapafllmhjaaW.PrintWords Go.Proofs.YtmedapafllmhjaaW.PrintLast Go.Proofs.YtmedapafllmhjaaW.PrintMore Go.Proofs.Ytmedapafllmhjaa.Ab
attribute [local go_sem] max2_int min2_int max_two min_two max_three min_three max_four min_four   -- for this text's walks alone
set_option linter.unusedVariables false
set_option linter.unusedSimpArgs false

/-! ### laws_FnExactPassLock: function 8 -/
mutual
def laws_FnExactPassLock.j0 : Nat → Int → Bool → Bool → Bool → Bool → List Int → List Bool → List Int → List Bool → List Int → List Bool → List Int → List Bool → Option (Bool)
  | 0, _, _, _, _, _, _, _, _, _, _, _, _, _ => none
  | k + 1, x1, x2, x9, x12, x48, x202000, x202001, x217000, x217001, x224000, x224001, x232000, x232001 => if x48 = true then (some false) else ((laws_toFlight.f k x202000 x202001).bind fun bt233 => ((laws_eqFlight.f k x224000 x224001 bt233.1 bt233.2).bind fun t239 => (if t239 = true then ((laws_markFlight.f k x224000 x224001 1).bind fun bt240 => (if bt240.1 < 0 then (laws_FnExactPassLock.j1 k x1 x2 x9 true x202000 x202001 x217000 x217001 x232000 x232001) else ((laws_eqFlight.f k x232000 x232001 x217000 x217001).bind fun t243 => (if t243 = true then (laws_FnExactPassLock.j1 k x1 x2 x9 (x12 != x9) x202000 x202001 x217000 x217001 x232000 x232001) else (laws_FnExactPassLock.j1 k x1 x2 x9 true x202000 x202001 x217000 x217001 x232000 x232001))))) else (some false))))
def laws_FnExactPassLock.j1 : Nat → Int → Bool → Bool → Bool → List Int → List Bool → List Int → List Bool → List Int → List Bool → Option (Bool)
  | 0, _, _, _, _, _, _, _, _, _, _ => none
  | k + 1, x1, x2, x9, x69, x202000, x202001, x217000, x217001, x232000, x232001 => if x69 = true then (some false) else ((laws_markFlight.f k x232000 x232001 1).bind fun bt244 => ((laws_heldFlight.f k bt244.2.1 bt244.2.2 1).bind fun t247 => (if t247 < 0 then (some false) else (if t247 = bt244.1 then ((laws_toFlight.f k x202000 x202001).bind fun bt248 => ((impl_PassLock.f bt248.1 bt248.2 x1 x2).bind fun bt254 => ((laws_eqFlight.f k bt254.1 bt254.2.1 x217000 x217001).bind fun t262 => (if t262 = true then (laws_FnExactPassLock.j2 k bt244.1 (bt254.2.2 != x9) bt244.2.1 bt244.2.2) else (laws_FnExactPassLock.j2 k bt244.1 true bt244.2.1 bt244.2.2))))) else (some false)))))
def laws_FnExactPassLock.j2 : Nat → Int → Bool → List Int → List Bool → Option (Bool)
  | 0, _, _, _, _ => none
  | k + 1, x14, x97, x232000, x232001 => if x97 = true then (some false) else ((laws_heldFlight.f k x232000 x232001 1).bind fun t263 => (if t263 < 0 then (some false) else (if t263 = x14 then (some true) else (some false))))
end
def laws_FnExactPassLock.f (k : Nat) (l0_0 : List Int) (l0_1 : List Bool) (a1 : Int) (a2 : Bool) : Option (Bool) := (laws_szFlight.f l0_0 l0_1 1048576).bind fun t202 => (if t202 < 0 then (some true) else ((laws_toFlight.f k l0_0 l0_1).bind fun bt203 => ((spec_PassLock.f k bt203.1 bt203.2 a1 a2).bind fun bt209 => ((laws_toFlight.f k l0_0 l0_1).bind fun bt217 => ((impl_PassLock.f bt217.1 bt217.2 a1 a2).bind fun bt224 => ((laws_eqFlight.f k bt224.1 bt224.2.1 bt209.1 bt209.2.1).bind fun t232 => (if t232 = true then (laws_FnExactPassLock.j0 k a1 a2 bt209.2.2 bt224.2.2 (bt224.2.2 != bt209.2.2) l0_0 l0_1 bt209.1 bt209.2.1 bt217.1 bt217.2 bt224.1 bt224.2.1) else (laws_FnExactPassLock.j0 k a1 a2 bt209.2.2 bt224.2.2 true l0_0 l0_1 bt209.1 bt209.2.1 bt217.1 bt217.2 bt224.1 bt224.2.1))))))))
theorem laws_FnExactPassLock.mono_l : ∀ k, (∀ y0 y1 y2 y3 y4 y5 y6 y7 y8 y9 y10 y11 y12, LeO (laws_FnExactPassLock.j0 k y0 y1 y2 y3 y4 y5 y6 y7 y8 y9 y10 y11 y12) (laws_FnExactPassLock.j0 (k + 1) y0 y1 y2 y3 y4 y5 y6 y7 y8 y9 y10 y11 y12)) ∧ (∀ y0 y1 y2 y3 y4 y5 y6 y7 y8 y9, LeO (laws_FnExactPassLock.j1 k y0 y1 y2 y3 y4 y5 y6 y7 y8 y9) (laws_FnExactPassLock.j1 (k + 1) y0 y1 y2 y3 y4 y5 y6 y7 y8 y9)) ∧ (∀ y0 y1 y2 y3, LeO (laws_FnExactPassLock.j2 k y0 y1 y2 y3) (laws_FnExactPassLock.j2 (k + 1) y0 y1 y2 y3))
 | 0 => ⟨fun _ _ _ _ _ _ _ _ _ _ _ _ _ r h => by simp [laws_FnExactPassLock.j0] at h, fun _ _ _ _ _ _ _ _ _ _ r h => by simp [laws_FnExactPassLock.j1] at h, fun _ _ _ _ r h => by simp [laws_FnExactPassLock.j2] at h⟩
 | k + 1 => by
  obtain ⟨ih0, ih1, ih2⟩ := laws_FnExactPassLock.mono_l k
  refine ⟨?_, ?_, ?_⟩
  ·intro y0 y1 y2 y3 y4 y5 y6 y7 y8 y9 y10 y11 y12
   unfold laws_FnExactPassLock.j0
   repeat' first
   | (with_reducible exact ih0 _ _ _ _ _ _ _ _ _ _ _ _ _)
   | (with_reducible exact ih1 _ _ _ _ _ _ _ _ _ _)
   | (with_reducible exact ih2 _ _ _ _)
   | (with_reducible exact laws_eqFlight.mono _ _ _ _ _)
   | (with_reducible exact laws_heldFlight.mono _ _ _ _)
   | (with_reducible exact laws_markFlight.mono _ _ _ _)
   | (with_reducible exact laws_toFlight.mono _ _ _)
   | (with_reducible exact spec_PassLock.mono _ _ _ _ _)
   | (with_reducible exact LeO.refl _)
   | (with_reducible exact LeO.none _)
   | (with_reducible refine LeO.ite ?_ ?_)
   | (with_reducible refine LeO.bind ?_ (fun _ => ?_))
   | exact ih0 _ _ _ _ _ _ _ _ _ _ _ _ _
   | exact ih1 _ _ _ _ _ _ _ _ _ _
   | exact ih2 _ _ _ _
   | exact laws_eqFlight.mono _ _ _ _ _
   | exact laws_heldFlight.mono _ _ _ _
   | exact laws_markFlight.mono _ _ _ _
   | exact laws_toFlight.mono _ _ _
   | exact spec_PassLock.mono _ _ _ _ _
   | exact LeO.none _
   | refine LeO.ite ?_ ?_
   | refine LeO.bind ?_ (fun _ => ?_)
  ·intro y0 y1 y2 y3 y4 y5 y6 y7 y8 y9
   unfold laws_FnExactPassLock.j1
   repeat' first
   | (with_reducible exact ih0 _ _ _ _ _ _ _ _ _ _ _ _ _)
   | (with_reducible exact ih1 _ _ _ _ _ _ _ _ _ _)
   | (with_reducible exact ih2 _ _ _ _)
   | (with_reducible exact laws_eqFlight.mono _ _ _ _ _)
   | (with_reducible exact laws_heldFlight.mono _ _ _ _)
   | (with_reducible exact laws_markFlight.mono _ _ _ _)
   | (with_reducible exact laws_toFlight.mono _ _ _)
   | (with_reducible exact spec_PassLock.mono _ _ _ _ _)
   | (with_reducible exact LeO.refl _)
   | (with_reducible exact LeO.none _)
   | (with_reducible refine LeO.ite ?_ ?_)
   | (with_reducible refine LeO.bind ?_ (fun _ => ?_))
   | exact ih0 _ _ _ _ _ _ _ _ _ _ _ _ _
   | exact ih1 _ _ _ _ _ _ _ _ _ _
   | exact ih2 _ _ _ _
   | exact laws_eqFlight.mono _ _ _ _ _
   | exact laws_heldFlight.mono _ _ _ _
   | exact laws_markFlight.mono _ _ _ _
   | exact laws_toFlight.mono _ _ _
   | exact spec_PassLock.mono _ _ _ _ _
   | exact LeO.none _
   | refine LeO.ite ?_ ?_
   | refine LeO.bind ?_ (fun _ => ?_)
  ·intro y0 y1 y2 y3
   unfold laws_FnExactPassLock.j2
   repeat' first
   | (with_reducible exact ih0 _ _ _ _ _ _ _ _ _ _ _ _ _)
   | (with_reducible exact ih1 _ _ _ _ _ _ _ _ _ _)
   | (with_reducible exact ih2 _ _ _ _)
   | (with_reducible exact laws_eqFlight.mono _ _ _ _ _)
   | (with_reducible exact laws_heldFlight.mono _ _ _ _)
   | (with_reducible exact laws_markFlight.mono _ _ _ _)
   | (with_reducible exact laws_toFlight.mono _ _ _)
   | (with_reducible exact spec_PassLock.mono _ _ _ _ _)
   | (with_reducible exact LeO.refl _)
   | (with_reducible exact LeO.none _)
   | (with_reducible refine LeO.ite ?_ ?_)
   | (with_reducible refine LeO.bind ?_ (fun _ => ?_))
   | exact ih0 _ _ _ _ _ _ _ _ _ _ _ _ _
   | exact ih1 _ _ _ _ _ _ _ _ _ _
   | exact ih2 _ _ _ _
   | exact laws_eqFlight.mono _ _ _ _ _
   | exact laws_heldFlight.mono _ _ _ _
   | exact laws_markFlight.mono _ _ _ _
   | exact laws_toFlight.mono _ _ _
   | exact spec_PassLock.mono _ _ _ _ _
   | exact LeO.none _
   | refine LeO.ite ?_ ?_
   | refine LeO.bind ?_ (fun _ => ?_)
theorem laws_FnExactPassLock.mono : ∀ a0 a1 a2 a3 k, LeO (laws_FnExactPassLock.f k a0 a1 a2 a3) (laws_FnExactPassLock.f (k + 1) a0 a1 a2 a3) := by
 intro a0 a1 a2 a3 k
 obtain ⟨ih0, ih1, ih2⟩ := laws_FnExactPassLock.mono_l k
 unfold laws_FnExactPassLock.f
 repeat' first
   | (with_reducible exact ih0 _ _ _ _ _ _ _ _ _ _ _ _ _)
   | (with_reducible exact ih1 _ _ _ _ _ _ _ _ _ _)
   | (with_reducible exact ih2 _ _ _ _)
   | (with_reducible exact laws_eqFlight.mono _ _ _ _ _)
   | (with_reducible exact laws_heldFlight.mono _ _ _ _)
   | (with_reducible exact laws_markFlight.mono _ _ _ _)
   | (with_reducible exact laws_toFlight.mono _ _ _)
   | (with_reducible exact spec_PassLock.mono _ _ _ _ _)
   | (with_reducible exact LeO.refl _)
   | (with_reducible exact LeO.none _)
   | (with_reducible refine LeO.ite ?_ ?_)
   | (with_reducible refine LeO.bind ?_ (fun _ => ?_))
   | exact ih0 _ _ _ _ _ _ _ _ _ _ _ _ _
   | exact ih1 _ _ _ _ _ _ _ _ _ _
   | exact ih2 _ _ _ _
   | exact laws_eqFlight.mono _ _ _ _ _
   | exact laws_heldFlight.mono _ _ _ _
   | exact laws_markFlight.mono _ _ _ _
   | exact laws_toFlight.mono _ _ _
   | exact spec_PassLock.mono _ _ _ _ _
   | exact LeO.none _
   | refine LeO.ite ?_ ?_
   | refine LeO.bind ?_ (fun _ => ?_)
set_option maxHeartbeats 8000000 in
set_option maxRecDepth 100000 in
theorem laws_FnExactPassLock.calls (k : Nat) (A0_0 : Option Addr) (c0_0 : Nat) (l0_0 : List Int) (A0_1 : Option Addr) (c0_1 : Nat) (l0_1 : List Bool) (a1 : Int) (a2 : Bool) (w : World) (hr0_0 : Kd.C (Kd.int .i64) w A0_0 l0_0.length l0_0) (hc0_0 : l0_0.length ≤ c0_0) (hr0_1 : Kd.C Kd.bool w A0_1 l0_1.length l0_1) (hc0_1 : l0_1.length ≤ c0_1) (h : laws_FnExactPassLock.f k l0_0 l0_1 a1 a2 = some true) :
  Calls Try.prog 8 #[.agg #[.slice A0_0 l0_0.length c0_0, .slice A0_1 l0_1.length c0_1], .int .i64 a1, .bool a2] w fun e w' => e = .returned (.bool true) ∧ Below w.heap.size w w' := by
 have hu25 := Try.underlying25
 have hu29 := Try.underlying29
 have HR0_0 := Aside0.mk hr0_0
 have HC0_0 := Aside0.mk hc0_0
 clear hr0_0 hc0_0
 have HR0_1 := Aside0.mk hr0_1
 have HC0_1 := Aside0.mk hc0_1
 clear hr0_1 hc0_1
 have HB := Aside0.mk (Below.refl w.heap.size w)
 have H : ((laws_szFlight.f l0_0 l0_1 1048576).bind fun t202 => (if t202 < 0 then (some true) else ((laws_toFlight.f k l0_0 l0_1).bind fun bt203 => ((spec_PassLock.f k bt203.1 bt203.2 a1 a2).bind fun bt209 => ((laws_toFlight.f k l0_0 l0_1).bind fun bt217 => ((impl_PassLock.f bt217.1 bt217.2 a1 a2).bind fun bt224 => ((laws_eqFlight.f k bt224.1 bt224.2.1 bt209.1 bt209.2.1).bind fun t232 => (if t232 = true then (laws_FnExactPassLock.j0 k a1 a2 bt209.2.2 bt224.2.2 (bt224.2.2 != bt209.2.2) l0_0 l0_1 bt209.1 bt209.2.1 bt217.1 bt217.2 bt224.1 bt224.2.1) else (laws_FnExactPassLock.j0 k a1 a2 bt209.2.2 bt224.2.2 true l0_0 l0_1 bt209.1 bt209.2.1 bt217.1 bt217.2 bt224.1 bt224.2.1))))))))) = some true := h
 clear h
 replace H := Option.bind_eq_some_iff.mp H
 obtain ⟨t202, A40, H⟩ := H
 replace H : (if t202 < 0 then (some true) else ((laws_toFlight.f k l0_0 l0_1).bind fun bt203 => ((spec_PassLock.f k bt203.1 bt203.2 a1 a2).bind fun bt209 => ((laws_toFlight.f k l0_0 l0_1).bind fun bt217 => ((impl_PassLock.f bt217.1 bt217.2 a1 a2).bind fun bt224 => ((laws_eqFlight.f k bt224.1 bt224.2.1 bt209.1 bt209.2.1).bind fun t232 => (if t232 = true then (laws_FnExactPassLock.j0 k a1 a2 bt209.2.2 bt224.2.2 (bt224.2.2 != bt209.2.2) l0_0 l0_1 bt209.1 bt209.2.1 bt217.1 bt217.2 bt224.1 bt224.2.1) else (laws_FnExactPassLock.j0 k a1 a2 bt209.2.2 bt224.2.2 true l0_0 l0_1 bt209.1 bt209.2.1 bt217.1 bt217.2 bt224.1 bt224.2.1)))))))) = some true := H
 have A4 := Aside0.mk A40
 clear A40
 by_cases c5 : t202 < 0
 ·rw [if_pos c5] at H
  have c5b0 : decide (t202 < 0) = true := decide_eq_true c5
  clear c5
  clear H
  go_enter Try.func8, Try.ntmps8
  go_wp2_with (first | ((with_reducible refine gate_dst (N := 3) rfl ?_); refine box_event ?hg (N := 3) ?hd (cs := #[.slice A0_0 l0_0.length c0_0, .slice A0_1 l0_1.length c0_1]) (t := 25) ?hr ?_; (case hd => rfl); (case hg => rfl); (case hr => first | (go_simp; done) | (go_simp; rfl)); intro gb201 hg w6 hbox hb; have BK201 := Aside0.mk (hbox); have GW201 := xg HB hg; have GE201 := xg HB hg; replace HB := xp HB hb; clear hb hbox hg; have hcz7_0 : w6.cell? ⟨gb201, 0, none⟩ = some (.slice A0_0 l0_0.length c0_0) := (blk_cell BK201.out 0).trans rfl; have hcz7_1 : w6.cell? ⟨gb201, 1, none⟩ = some (.slice A0_1 l0_1.length c0_1) := (blk_cell BK201.out 1).trans rfl; have hfz7_0 := blk_frozen BK201.out 0; have hfz7_1 := blk_frozen BK201.out 1) | ((with_reducible refine gate_callee (f := 10) rfl ?_); refine goesL_ (some 20) rfl rfl Try.func10 (by kernel_rfl) rfl #[.agg #[.slice A0_0 l0_0.length c0_0, .slice A0_1 l0_1.length c0_1], .int .i64 1048576] rfl (by (try simp only [List.map_toArray, List.map_cons, List.map_nil]); first | done | rfl | (simp only [List.length_drop, List.length_take]; rfl)) ?_; (with_reducible refine (laws_szFlight.calls _ _ l0_0 _ _ l0_1 1048576 t202 _ ?side1 ?side2 ?side3 ?side4 A4.out).mono ?_); (case side1 => exact xd ((Kd.C_below HR0_0.out HB.out))); (case side2 => exact HC0_0.out); (case side3 => exact xd ((Kd.C_below HR0_1.out HB.out))); (case side4 => exact HC0_1.out); rintro e w8 ⟨rfl, hb⟩; refine ⟨_, rfl, ?_⟩; replace BK201 := xk BK201 hb; replace HB := xp HB hb; (try clear hb); (try clear hb2); (try clear hk); (try clear hi)))
  go_ret
  exact ⟨by first | rfl | (simp [errW_none, errW_some] <;> rfl) | (simp [*, errW_none, errW_some] <;> rfl), by repeat (first | (with_reducible first | exact HB.out | apply below_alloc | apply pw_below_drewN | apply below_drew1 | refine below_set ?_ GE201.out) | exact HB.out)⟩
 ·rw [if_neg c5] at H
  have c5b0 : decide (t202 < 0) = false := decide_eq_false c5
  clear c5
  replace H := Option.bind_eq_some_iff.mp H
  obtain ⟨⟨t203, t206⟩, A90, H⟩ := H
  replace H : ((spec_PassLock.f k t203 t206 a1 a2).bind fun bt209 => ((laws_toFlight.f k l0_0 l0_1).bind fun bt217 => ((impl_PassLock.f bt217.1 bt217.2 a1 a2).bind fun bt224 => ((laws_eqFlight.f k bt224.1 bt224.2.1 bt209.1 bt209.2.1).bind fun t232 => (if t232 = true then (laws_FnExactPassLock.j0 k a1 a2 bt209.2.2 bt224.2.2 (bt224.2.2 != bt209.2.2) l0_0 l0_1 bt209.1 bt209.2.1 bt217.1 bt217.2 bt224.1 bt224.2.1) else (laws_FnExactPassLock.j0 k a1 a2 bt209.2.2 bt224.2.2 true l0_0 l0_1 bt209.1 bt209.2.1 bt217.1 bt217.2 bt224.1 bt224.2.1)))))) = some true := H
  have A9 := Aside0.mk A90
  clear A90
  replace H := Option.bind_eq_some_iff.mp H
  obtain ⟨⟨t209, t212, t215⟩, A100, H⟩ := H
  replace H : ((laws_toFlight.f k l0_0 l0_1).bind fun bt217 => ((impl_PassLock.f bt217.1 bt217.2 a1 a2).bind fun bt224 => ((laws_eqFlight.f k bt224.1 bt224.2.1 t209 t212).bind fun t232 => (if t232 = true then (laws_FnExactPassLock.j0 k a1 a2 t215 bt224.2.2 (bt224.2.2 != t215) l0_0 l0_1 t209 t212 bt217.1 bt217.2 bt224.1 bt224.2.1) else (laws_FnExactPassLock.j0 k a1 a2 t215 bt224.2.2 true l0_0 l0_1 t209 t212 bt217.1 bt217.2 bt224.1 bt224.2.1))))) = some true := H
  have A10 := Aside0.mk A100
  clear A100
  replace H := Option.bind_eq_some_iff.mp H
  obtain ⟨⟨t217, t220⟩, A110, H⟩ := H
  replace H : ((impl_PassLock.f t217 t220 a1 a2).bind fun bt224 => ((laws_eqFlight.f k bt224.1 bt224.2.1 t209 t212).bind fun t232 => (if t232 = true then (laws_FnExactPassLock.j0 k a1 a2 t215 bt224.2.2 (bt224.2.2 != t215) l0_0 l0_1 t209 t212 t217 t220 bt224.1 bt224.2.1) else (laws_FnExactPassLock.j0 k a1 a2 t215 bt224.2.2 true l0_0 l0_1 t209 t212 t217 t220 bt224.1 bt224.2.1)))) = some true := H
  have A11 := Aside0.mk A110
  clear A110
  replace H := Option.bind_eq_some_iff.mp H
  obtain ⟨⟨t224, t227, t230⟩, A120, H⟩ := H
  replace H : ((laws_eqFlight.f k t224 t227 t209 t212).bind fun t232 => (if t232 = true then (laws_FnExactPassLock.j0 k a1 a2 t215 t230 (t230 != t215) l0_0 l0_1 t209 t212 t217 t220 t224 t227) else (laws_FnExactPassLock.j0 k a1 a2 t215 t230 true l0_0 l0_1 t209 t212 t217 t220 t224 t227))) = some true := H
  have A12 := Aside0.mk A120
  clear A120
  have HC13 := Aside0.mk H
  clear H
  go_enter Try.func8, Try.ntmps8
  go_upto_region 8 with (first | ((with_reducible refine gate_dst (N := 3) rfl ?_); refine box_event ?hg (N := 3) ?hd (cs := #[.slice A0_0 l0_0.length c0_0, .slice A0_1 l0_1.length c0_1]) (t := 25) ?hr ?_; (case hd => rfl); (case hg => rfl); (case hr => first | (go_simp; done) | (go_simp; rfl)); intro gb201 hg w14 hbox hb; have BK201 := Aside0.mk (hbox); have GW201 := xg HB hg; have GE201 := xg HB hg; replace HB := xp HB hb; clear hb hbox hg; have hcz15_0 : w14.cell? ⟨gb201, 0, none⟩ = some (.slice A0_0 l0_0.length c0_0) := (blk_cell BK201.out 0).trans rfl; have hcz15_1 : w14.cell? ⟨gb201, 1, none⟩ = some (.slice A0_1 l0_1.length c0_1) := (blk_cell BK201.out 1).trans rfl; have hfz15_0 := blk_frozen BK201.out 0; have hfz15_1 := blk_frozen BK201.out 1) | ((with_reducible refine gate_callee (f := 10) rfl ?_); refine goesL_ (some 20) rfl rfl Try.func10 (by kernel_rfl) rfl #[.agg #[.slice A0_0 l0_0.length c0_0, .slice A0_1 l0_1.length c0_1], .int .i64 1048576] rfl (by (try simp only [List.map_toArray, List.map_cons, List.map_nil]); first | done | rfl | (simp only [List.length_drop, List.length_take]; rfl)) ?_; (with_reducible refine (laws_szFlight.calls _ _ l0_0 _ _ l0_1 1048576 t202 _ ?side1 ?side2 ?side3 ?side4 A4.out).mono ?_); (case side1 => exact xd ((Kd.C_below HR0_0.out HB.out))); (case side2 => exact HC0_0.out); (case side3 => exact xd ((Kd.C_below HR0_1.out HB.out))); (case side4 => exact HC0_1.out); rintro e w16 ⟨rfl, hb⟩; refine ⟨_, rfl, ?_⟩; replace BK201 := xk BK201 hb; replace HB := xp HB hb; (try clear hb); (try clear hb2); (try clear hk); (try clear hi); have hcz17_0 : w16.cell? ⟨gb201, 0, none⟩ = some (.slice A0_0 l0_0.length c0_0) := (blk_cell BK201.out 0).trans rfl; have hcz17_1 : w16.cell? ⟨gb201, 1, none⟩ = some (.slice A0_1 l0_1.length c0_1) := (blk_cell BK201.out 1).trans rfl; have hfz17_0 := blk_frozen BK201.out 0; have hfz17_1 := blk_frozen BK201.out 1) | ((with_reducible refine gate_callee (f := 12) rfl ?_); refine goesL_ (some 25) rfl rfl Try.func12 (by kernel_rfl) rfl #[.agg #[.slice A0_0 l0_0.length c0_0, .slice A0_1 l0_1.length c0_1]] rfl (by (try simp only [List.map_toArray, List.map_cons, List.map_nil]); first | done | rfl | (simp only [List.length_drop, List.length_take]; rfl)) ?_; (with_reducible refine (laws_toFlight.calls k _ _ l0_0 _ _ l0_1 t203 t206 _ ?side1 ?side2 ?side3 ?side4 A9.out).mono ?_); (case side1 => exact xd ((Kd.C_below HR0_0.out HB.out))); (case side2 => exact HC0_0.out); (case side3 => exact xd ((Kd.C_below HR0_1.out HB.out))); (case side4 => exact HC0_1.out); rintro e w18 ⟨v204, v207, rfl, ho0, ho1, hb⟩; refine ⟨_, rfl, ?_⟩; have HO205 := Aside0.mk (Kd.R_lower ho0 (below_size (xs HB.out))); have HO208 := Aside0.mk (Kd.R_lower ho1 (below_size (xs HB.out))); replace BK201 := xk BK201 hb; replace HB := xp HB hb; (try clear hb); (try clear hb2); (try clear hk); (try clear hi); (try clear ho0); (try clear ho1); obtain ⟨Ao19, co19, eo19⟩ := Kd.R_slice HO205.out; subst eo19; obtain ⟨Ao20, co20, eo20⟩ := Kd.R_slice HO208.out; subst eo20) | ((with_reducible refine gate_callee (f := 25) rfl ?_); refine goesL_ (some 28) rfl rfl Try.func25 (by kernel_rfl) rfl #[.agg #[.slice Ao19 t203.length co19, .slice Ao20 t206.length co20], .int .i64 a1, .bool a2] rfl (by (try simp only [List.map_toArray, List.map_cons, List.map_nil]); first | done | rfl | (simp only [List.length_drop, List.length_take]; rfl)) ?_; (with_reducible refine (spec_PassLock.calls k _ _ t203 _ _ t206 a1 a2 t209 t212 t215 _ ?side1 ?side2 ?side3 ?side4 A10.out).mono ?_); (case side1 => exact xd ((Kd.R_reads' HO205.out).2.2)); (case side2 => exact (Kd.R_reads' HO205.out).2.1); (case side3 => exact xd ((Kd.R_reads' HO208.out).2.2)); (case side4 => exact (Kd.R_reads' HO208.out).2.1); rintro e w21 ⟨v210, v213, rfl, ho0, ho1, hb⟩; refine ⟨_, rfl, ?_⟩; have HO211 := Aside0.mk (Kd.R_lower (Kd.R_new' ho0 (Kd.R_lt (xr HO205.out))) (below_size (xs HB.out))); replace HO205 := Aside0.mk (Kd.R_elder' (xr HO205.out) (Kd.R_base ho0) hb); have HO214 := Aside0.mk (Kd.R_lower (Kd.R_new' ho1 (Kd.R_lt (xr HO208.out))) (below_size (xs HB.out))); replace HO208 := Aside0.mk (Kd.R_elder' (xr HO208.out) (Kd.R_base ho1) hb); replace BK201 := xk BK201 hb; replace HB := xp HB hb; (try clear hb); (try clear hb2); (try clear hk); (try clear hi); (try clear ho0); (try clear ho1)) | ((with_reducible refine gate_dst (N := 8) rfl ?_); refine box_event ?hg (N := 8) ?hd (cs := #[.slice none 0 0, .slice none 0 0]) (t := 29) ?hr ?_; (case hd => rfl); (case hg => rfl); (case hr => first | (go_simp; done) | (go_simp; rfl)); intro gb216 hg w22 hbox hb; replace HO205 := xq HO205 hb; replace HO208 := xq HO208 hb; replace HO211 := xq HO211 hb; replace HO214 := xq HO214 hb; have BK216 := Aside0.mk (hbox); have GW216 := xg HB hg; have GE216 := xg HB hg; replace HB := xp HB hb; have NB201_216 := xl BK201 hg; have NB216_201 := xh BK201 hg; replace BK201 := xk BK201 hb; clear hb hbox hg; obtain ⟨Ao23, co23, eo23⟩ := Kd.R_slice HO211.out; subst eo23; have hnb24 := NB216_201.out; have hnc24 := NB201_216.out; have hcz25_0 : w22.cell? ⟨gb216, 0, none⟩ = some (.slice none 0 0) := (blk_cell BK216.out 0).trans rfl; have hcz25_1 : w22.cell? ⟨gb216, 1, none⟩ = some (.slice none 0 0) := (blk_cell BK216.out 1).trans rfl; have hfz25_0 := blk_frozen BK216.out 0; have hfz25_1 := blk_frozen BK216.out 1; obtain ⟨Ao26, co26, eo26⟩ := Kd.R_slice HO214.out; subst eo26; have hcz27_0 : w22.cell? ⟨gb201, 0, none⟩ = some (.slice A0_0 l0_0.length c0_0) := (blk_cell BK201.out 0).trans rfl; have hcz27_1 : w22.cell? ⟨gb201, 1, none⟩ = some (.slice A0_1 l0_1.length c0_1) := (blk_cell BK201.out 1).trans rfl; have hfz27_0 := blk_frozen BK201.out 0; have hfz27_1 := blk_frozen BK201.out 1) | ((with_reducible refine gate_callee (f := 12) rfl ?_); refine goesL_ (some 32) rfl rfl Try.func12 (by kernel_rfl) rfl #[.agg #[.slice A0_0 l0_0.length c0_0, .slice A0_1 l0_1.length c0_1]] rfl (by (try simp only [List.map_toArray, List.map_cons, List.map_nil]); first | done | rfl | (simp only [List.length_drop, List.length_take]; rfl)) ?_; (with_reducible refine (laws_toFlight.calls k _ _ l0_0 _ _ l0_1 t217 t220 _ ?side1 ?side2 ?side3 ?side4 A11.out).mono ?_); (case side1 => exact Kd.C_below HR0_0.out (xs HB.out)); (case side2 => exact HC0_0.out); (case side3 => exact Kd.C_below HR0_1.out (xs HB.out)); (case side4 => exact HC0_1.out); rintro e w28 ⟨v218, v221, rfl, ho0, ho1, hb⟩; refine ⟨_, rfl, ?_⟩; have HO219 := Aside0.mk (Kd.R_lower (Kd.R_new' (Kd.R_new' ho0 (Kd.R_lt (by (with_reducible repeat (first | apply Kd.R_alloc | apply Kd.R_drewN | apply Kd.R_drew)); exact (Kd.R_mono (Kd.R_far (p := ⟨gb216, 1, none⟩) (Kd.R_far (p := ⟨gb216, 0, none⟩) (Kd.R_types HO205.out BK216.out (by decide)) (fun _ hk => hk.2) (.slice Ao23 t209.length co23)) (fun _ hk => hk.2) (.slice Ao26 t212.length co26)) (fun _ h_ => h_.1))))) (Kd.R_lt (by (with_reducible repeat (first | apply Kd.R_alloc | apply Kd.R_drewN | apply Kd.R_drew)); exact (Kd.R_mono (Kd.R_far (p := ⟨gb216, 1, none⟩) (Kd.R_far (p := ⟨gb216, 0, none⟩) (Kd.R_types HO211.out BK216.out (by decide)) (fun _ hk => hk.2) (.slice Ao23 t209.length co23)) (fun _ hk => hk.2) (.slice Ao26 t212.length co26)) (fun _ h_ => h_.1))))) (below_size (xs HB.out))); replace HO205 := Aside0.mk (Kd.R_elder' (by (with_reducible repeat (first | apply Kd.R_alloc | apply Kd.R_drewN | apply Kd.R_drew)); exact (Kd.R_mono (Kd.R_far (p := ⟨gb216, 1, none⟩) (Kd.R_far (p := ⟨gb216, 0, none⟩) (Kd.R_types HO205.out BK216.out (by decide)) (fun _ hk => hk.2) (.slice Ao23 t209.length co23)) (fun _ hk => hk.2) (.slice Ao26 t212.length co26)) (fun _ h_ => h_.1))) (Kd.R_base ho0) hb); replace HO211 := Aside0.mk (Kd.R_elder' (by (with_reducible repeat (first | apply Kd.R_alloc | apply Kd.R_drewN | apply Kd.R_drew)); exact (Kd.R_mono (Kd.R_far (p := ⟨gb216, 1, none⟩) (Kd.R_far (p := ⟨gb216, 0, none⟩) (Kd.R_types HO211.out BK216.out (by decide)) (fun _ hk => hk.2) (.slice Ao23 t209.length co23)) (fun _ hk => hk.2) (.slice Ao26 t212.length co26)) (fun _ h_ => h_.1))) (Kd.R_base ho0) hb); have HO222 := Aside0.mk (Kd.R_lower (Kd.R_new' (Kd.R_new' ho1 (Kd.R_lt (by (with_reducible repeat (first | apply Kd.R_alloc | apply Kd.R_drewN | apply Kd.R_drew)); exact (Kd.R_mono (Kd.R_far (p := ⟨gb216, 1, none⟩) (Kd.R_far (p := ⟨gb216, 0, none⟩) (Kd.R_types HO208.out BK216.out (by decide)) (fun _ hk => hk.2) (.slice Ao23 t209.length co23)) (fun _ hk => hk.2) (.slice Ao26 t212.length co26)) (fun _ h_ => h_.1))))) (Kd.R_lt (by (with_reducible repeat (first | apply Kd.R_alloc | apply Kd.R_drewN | apply Kd.R_drew)); exact (Kd.R_mono (Kd.R_far (p := ⟨gb216, 1, none⟩) (Kd.R_far (p := ⟨gb216, 0, none⟩) (Kd.R_types HO214.out BK216.out (by decide)) (fun _ hk => hk.2) (.slice Ao23 t209.length co23)) (fun _ hk => hk.2) (.slice Ao26 t212.length co26)) (fun _ h_ => h_.1))))) (below_size (xs HB.out))); replace HO208 := Aside0.mk (Kd.R_elder' (by (with_reducible repeat (first | apply Kd.R_alloc | apply Kd.R_drewN | apply Kd.R_drew)); exact (Kd.R_mono (Kd.R_far (p := ⟨gb216, 1, none⟩) (Kd.R_far (p := ⟨gb216, 0, none⟩) (Kd.R_types HO208.out BK216.out (by decide)) (fun _ hk => hk.2) (.slice Ao23 t209.length co23)) (fun _ hk => hk.2) (.slice Ao26 t212.length co26)) (fun _ h_ => h_.1))) (Kd.R_base ho1) hb); replace HO214 := Aside0.mk (Kd.R_elder' (by (with_reducible repeat (first | apply Kd.R_alloc | apply Kd.R_drewN | apply Kd.R_drew)); exact (Kd.R_mono (Kd.R_far (p := ⟨gb216, 1, none⟩) (Kd.R_far (p := ⟨gb216, 0, none⟩) (Kd.R_types HO214.out BK216.out (by decide)) (fun _ hk => hk.2) (.slice Ao23 t209.length co23)) (fun _ hk => hk.2) (.slice Ao26 t212.length co26)) (fun _ h_ => h_.1))) (Kd.R_base ho1) hb); replace BK201 := Aside0.mk (blk_below (g := gb201) (o := .cells #[.slice A0_0 l0_0.length c0_0, .slice A0_1 l0_1.length c0_1] 25 (0, 0)) (xff NB201_216.out NB201_216.out BK201.out) hb); replace BK216 := Aside0.mk (blk_below (g := gb216) (o := .cells #[.slice Ao23 t209.length co23, .slice Ao26 t212.length co26] 29 (0, 0)) (by (with_reducible repeat (first | refine blk_drewN ?_ _ | refine blk_drew ?_ | refine blk_alloc ?_ _)); refine blk_put (cs := #[.slice Ao23 t209.length co23, .slice none 0 0]) ?_ 1 _ rfl; (with_reducible repeat (first | refine blk_drewN ?_ _ | refine blk_drew ?_ | refine blk_alloc ?_ _)); refine blk_put (cs := #[.slice none 0 0, .slice none 0 0]) ?_ 0 _ rfl; (with_reducible repeat (first | refine blk_drewN ?_ _ | refine blk_drew ?_ | refine blk_alloc ?_ _)); exact BK216.out) hb); replace HB := xp HB hb; (try clear hb); (try clear hb2); (try clear hk); (try clear hi); (try clear ho0); (try clear ho1)) | ((with_reducible refine gate_dst (N := 10) rfl ?_); refine box_event ?hg (N := 10) ?hd (cs := #[.slice none 0 0, .slice none 0 0]) (t := 29) ?hr ?_; (case hd => rfl); (case hg => rfl); (case hr => first | (go_simp; done) | (go_simp; rfl)); intro gb223 hg w29 hbox hb; replace HO205 := xq HO205 hb; replace HO208 := xq HO208 hb; replace HO211 := xq HO211 hb; replace HO214 := xq HO214 hb; replace HO219 := xq HO219 hb; replace HO222 := xq HO222 hb; have BK223 := Aside0.mk (hbox); have GW223 := xg HB hg; have GE223 := xg HB hg; replace HB := xp HB hb; have NB201_223 := xl BK201 hg; have NB223_201 := xh BK201 hg; replace BK201 := xk BK201 hb; have NB216_223 := xl BK216 hg; have NB223_216 := xh BK216 hg; replace BK216 := xk BK216 hb; clear hb hbox hg; obtain ⟨Ao30, co30, eo30⟩ := Kd.R_slice HO219.out; subst eo30; have hnb31 := NB223_201.out; have hnc31 := NB201_223.out; have hnb32 := NB223_216.out; have hnc32 := NB216_223.out; have hcz33_0 : w29.cell? ⟨gb223, 0, none⟩ = some (.slice none 0 0) := (blk_cell BK223.out 0).trans rfl; have hcz33_1 : w29.cell? ⟨gb223, 1, none⟩ = some (.slice none 0 0) := (blk_cell BK223.out 1).trans rfl; have hfz33_0 := blk_frozen BK223.out 0; have hfz33_1 := blk_frozen BK223.out 1; obtain ⟨Ao34, co34, eo34⟩ := Kd.R_slice HO222.out; subst eo34) | ((with_reducible refine gate_callee (f := 26) rfl ?_); refine goesL_ (some 37) rfl rfl Try.func26 (by kernel_rfl) rfl #[.agg #[.slice Ao30 t217.length co30, .slice Ao34 t220.length co34], .int .i64 a1, .bool a2] rfl (by (try simp only [List.map_toArray, List.map_cons, List.map_nil]); first | done | rfl | (simp only [List.length_drop, List.length_take]; rfl)) ?_; (with_reducible refine (impl_PassLock.calls _ _ t217 _ _ t220 a1 a2 t224 t227 t230 _ ?side1 ?side2 ?side3 ?side4 A12.out).mono ?_); (case side1 => refine (Kd.R_reads' (e := 3) (base := w.heap.size) (ok := fun k_ => ((True ∧ nS k_ Ao19 t203.length co19) ∧ nS k_ Ao23 t209.length co23)) (n := t217.length) (c := co30) ?_).2.2; exact (by (with_reducible repeat (first | apply Kd.R_alloc | apply Kd.R_drewN | apply Kd.R_drew)); exact (Kd.R_mono (Kd.R_far (p := ⟨gb223, 1, none⟩) (Kd.R_far (p := ⟨gb223, 0, none⟩) (Kd.R_types HO219.out BK223.out (by decide)) (fun _ hk => hk.2) (.slice Ao30 t217.length co30)) (fun _ hk => hk.2) (.slice Ao34 t220.length co34)) (fun _ h_ => h_.1)))); (case side2 => exact (Kd.R_reads' HO219.out).2.1); (case side3 => refine (Kd.R_reads' (e := 4) (base := w.heap.size) (ok := fun k_ => ((True ∧ nS k_ Ao20 t206.length co20) ∧ nS k_ Ao26 t212.length co26)) (n := t220.length) (c := co34) ?_).2.2; exact (by (with_reducible repeat (first | apply Kd.R_alloc | apply Kd.R_drewN | apply Kd.R_drew)); exact (Kd.R_mono (Kd.R_far (p := ⟨gb223, 1, none⟩) (Kd.R_far (p := ⟨gb223, 0, none⟩) (Kd.R_types HO222.out BK223.out (by decide)) (fun _ hk => hk.2) (.slice Ao30 t217.length co30)) (fun _ hk => hk.2) (.slice Ao34 t220.length co34)) (fun _ h_ => h_.1)))); (case side4 => exact (Kd.R_reads' HO222.out).2.1); rintro e w35 ⟨v225, v228, rfl, ho0, ho1, hb⟩; refine ⟨_, rfl, ?_⟩; have HO226 := Aside0.mk (Kd.R_lower (Kd.R_new' (Kd.R_new' (Kd.R_new' ho0 (Kd.R_lt (by (with_reducible repeat (first | apply Kd.R_alloc | apply Kd.R_drewN | apply Kd.R_drew)); exact (Kd.R_mono (Kd.R_far (p := ⟨gb223, 1, none⟩) (Kd.R_far (p := ⟨gb223, 0, none⟩) (Kd.R_types HO205.out BK223.out (by decide)) (fun _ hk => hk.2) (.slice Ao30 t217.length co30)) (fun _ hk => hk.2) (.slice Ao34 t220.length co34)) (fun _ h_ => h_.1))))) (Kd.R_lt (by (with_reducible repeat (first | apply Kd.R_alloc | apply Kd.R_drewN | apply Kd.R_drew)); exact (Kd.R_mono (Kd.R_far (p := ⟨gb223, 1, none⟩) (Kd.R_far (p := ⟨gb223, 0, none⟩) (Kd.R_types HO211.out BK223.out (by decide)) (fun _ hk => hk.2) (.slice Ao30 t217.length co30)) (fun _ hk => hk.2) (.slice Ao34 t220.length co34)) (fun _ h_ => h_.1))))) (Kd.R_lt (by (with_reducible repeat (first | apply Kd.R_alloc | apply Kd.R_drewN | apply Kd.R_drew)); exact (Kd.R_mono (Kd.R_far (p := ⟨gb223, 1, none⟩) (Kd.R_far (p := ⟨gb223, 0, none⟩) (Kd.R_types HO219.out BK223.out (by decide)) (fun _ hk => hk.2) (.slice Ao30 t217.length co30)) (fun _ hk => hk.2) (.slice Ao34 t220.length co34)) (fun _ h_ => h_.1))))) (below_size (xs HB.out))); replace HO205 := Aside0.mk (Kd.R_elder' (by (with_reducible repeat (first | apply Kd.R_alloc | apply Kd.R_drewN | apply Kd.R_drew)); exact (Kd.R_mono (Kd.R_far (p := ⟨gb223, 1, none⟩) (Kd.R_far (p := ⟨gb223, 0, none⟩) (Kd.R_types HO205.out BK223.out (by decide)) (fun _ hk => hk.2) (.slice Ao30 t217.length co30)) (fun _ hk => hk.2) (.slice Ao34 t220.length co34)) (fun _ h_ => h_.1))) (Kd.R_base ho0) hb); replace HO211 := Aside0.mk (Kd.R_elder' (by (with_reducible repeat (first | apply Kd.R_alloc | apply Kd.R_drewN | apply Kd.R_drew)); exact (Kd.R_mono (Kd.R_far (p := ⟨gb223, 1, none⟩) (Kd.R_far (p := ⟨gb223, 0, none⟩) (Kd.R_types HO211.out BK223.out (by decide)) (fun _ hk => hk.2) (.slice Ao30 t217.length co30)) (fun _ hk => hk.2) (.slice Ao34 t220.length co34)) (fun _ h_ => h_.1))) (Kd.R_base ho0) hb); replace HO219 := Aside0.mk (Kd.R_elder' (by (with_reducible repeat (first | apply Kd.R_alloc | apply Kd.R_drewN | apply Kd.R_drew)); exact (Kd.R_mono (Kd.R_far (p := ⟨gb223, 1, none⟩) (Kd.R_far (p := ⟨gb223, 0, none⟩) (Kd.R_types HO219.out BK223.out (by decide)) (fun _ hk => hk.2) (.slice Ao30 t217.length co30)) (fun _ hk => hk.2) (.slice Ao34 t220.length co34)) (fun _ h_ => h_.1))) (Kd.R_base ho0) hb); have HO229 := Aside0.mk (Kd.R_lower (Kd.R_new' (Kd.R_new' (Kd.R_new' ho1 (Kd.R_lt (by (with_reducible repeat (first | apply Kd.R_alloc | apply Kd.R_drewN | apply Kd.R_drew)); exact (Kd.R_mono (Kd.R_far (p := ⟨gb223, 1, none⟩) (Kd.R_far (p := ⟨gb223, 0, none⟩) (Kd.R_types HO208.out BK223.out (by decide)) (fun _ hk => hk.2) (.slice Ao30 t217.length co30)) (fun _ hk => hk.2) (.slice Ao34 t220.length co34)) (fun _ h_ => h_.1))))) (Kd.R_lt (by (with_reducible repeat (first | apply Kd.R_alloc | apply Kd.R_drewN | apply Kd.R_drew)); exact (Kd.R_mono (Kd.R_far (p := ⟨gb223, 1, none⟩) (Kd.R_far (p := ⟨gb223, 0, none⟩) (Kd.R_types HO214.out BK223.out (by decide)) (fun _ hk => hk.2) (.slice Ao30 t217.length co30)) (fun _ hk => hk.2) (.slice Ao34 t220.length co34)) (fun _ h_ => h_.1))))) (Kd.R_lt (by (with_reducible repeat (first | apply Kd.R_alloc | apply Kd.R_drewN | apply Kd.R_drew)); exact (Kd.R_mono (Kd.R_far (p := ⟨gb223, 1, none⟩) (Kd.R_far (p := ⟨gb223, 0, none⟩) (Kd.R_types HO222.out BK223.out (by decide)) (fun _ hk => hk.2) (.slice Ao30 t217.length co30)) (fun _ hk => hk.2) (.slice Ao34 t220.length co34)) (fun _ h_ => h_.1))))) (below_size (xs HB.out))); replace HO208 := Aside0.mk (Kd.R_elder' (by (with_reducible repeat (first | apply Kd.R_alloc | apply Kd.R_drewN | apply Kd.R_drew)); exact (Kd.R_mono (Kd.R_far (p := ⟨gb223, 1, none⟩) (Kd.R_far (p := ⟨gb223, 0, none⟩) (Kd.R_types HO208.out BK223.out (by decide)) (fun _ hk => hk.2) (.slice Ao30 t217.length co30)) (fun _ hk => hk.2) (.slice Ao34 t220.length co34)) (fun _ h_ => h_.1))) (Kd.R_base ho1) hb); replace HO214 := Aside0.mk (Kd.R_elder' (by (with_reducible repeat (first | apply Kd.R_alloc | apply Kd.R_drewN | apply Kd.R_drew)); exact (Kd.R_mono (Kd.R_far (p := ⟨gb223, 1, none⟩) (Kd.R_far (p := ⟨gb223, 0, none⟩) (Kd.R_types HO214.out BK223.out (by decide)) (fun _ hk => hk.2) (.slice Ao30 t217.length co30)) (fun _ hk => hk.2) (.slice Ao34 t220.length co34)) (fun _ h_ => h_.1))) (Kd.R_base ho1) hb); replace HO222 := Aside0.mk (Kd.R_elder' (by (with_reducible repeat (first | apply Kd.R_alloc | apply Kd.R_drewN | apply Kd.R_drew)); exact (Kd.R_mono (Kd.R_far (p := ⟨gb223, 1, none⟩) (Kd.R_far (p := ⟨gb223, 0, none⟩) (Kd.R_types HO222.out BK223.out (by decide)) (fun _ hk => hk.2) (.slice Ao30 t217.length co30)) (fun _ hk => hk.2) (.slice Ao34 t220.length co34)) (fun _ h_ => h_.1))) (Kd.R_base ho1) hb); replace BK201 := Aside0.mk (blk_below (g := gb201) (o := .cells #[.slice A0_0 l0_0.length c0_0, .slice A0_1 l0_1.length c0_1] 25 (0, 0)) (xff NB201_223.out NB201_223.out BK201.out) hb); replace BK216 := Aside0.mk (blk_below (g := gb216) (o := .cells #[.slice Ao23 t209.length co23, .slice Ao26 t212.length co26] 29 (0, 0)) (xff NB216_223.out NB216_223.out BK216.out) hb); replace BK223 := Aside0.mk (blk_below (g := gb223) (o := .cells #[.slice Ao30 t217.length co30, .slice Ao34 t220.length co34] 29 (0, 0)) (by (with_reducible repeat (first | refine blk_drewN ?_ _ | refine blk_drew ?_ | refine blk_alloc ?_ _)); refine blk_put (cs := #[.slice Ao30 t217.length co30, .slice none 0 0]) ?_ 1 _ rfl; (with_reducible repeat (first | refine blk_drewN ?_ _ | refine blk_drew ?_ | refine blk_alloc ?_ _)); refine blk_put (cs := #[.slice none 0 0, .slice none 0 0]) ?_ 0 _ rfl; (with_reducible repeat (first | refine blk_drewN ?_ _ | refine blk_drew ?_ | refine blk_alloc ?_ _)); exact BK223.out) hb); replace HB := xp HB hb; (try clear hb); (try clear hb2); (try clear hk); (try clear hi); (try clear ho0); (try clear ho1)) | ((with_reducible refine gate_dst (N := 11) rfl ?_); refine box_event ?hg (N := 11) ?hd (cs := #[.slice none 0 0, .slice none 0 0]) (t := 29) ?hr ?_; (case hd => rfl); (case hg => rfl); (case hr => first | (go_simp; done) | (go_simp; rfl)); intro gb231 hg w36 hbox hb; replace HO205 := xq HO205 hb; replace HO208 := xq HO208 hb; replace HO211 := xq HO211 hb; replace HO214 := xq HO214 hb; replace HO219 := xq HO219 hb; replace HO222 := xq HO222 hb; replace HO226 := xq HO226 hb; replace HO229 := xq HO229 hb; have BK231 := Aside0.mk (hbox); have GW231 := xg HB hg; have GE231 := xg HB hg; replace HB := xp HB hb; have NB201_231 := xl BK201 hg; have NB231_201 := xh BK201 hg; replace BK201 := xk BK201 hb; have NB216_231 := xl BK216 hg; have NB231_216 := xh BK216 hg; replace BK216 := xk BK216 hb; have NB223_231 := xl BK223 hg; have NB231_223 := xh BK223 hg; replace BK223 := xk BK223 hb; clear hb hbox hg; obtain ⟨Ao37, co37, eo37⟩ := Kd.R_slice HO226.out; subst eo37; have hnb38 := NB231_201.out; have hnc38 := NB201_231.out; have hnb39 := NB231_216.out; have hnc39 := NB216_231.out; have hnb40 := NB231_223.out; have hnc40 := NB223_231.out; have hcz41_0 : w36.cell? ⟨gb231, 0, none⟩ = some (.slice none 0 0) := (blk_cell BK231.out 0).trans rfl; have hcz41_1 : w36.cell? ⟨gb231, 1, none⟩ = some (.slice none 0 0) := (blk_cell BK231.out 1).trans rfl; have hfz41_0 := blk_frozen BK231.out 0; have hfz41_1 := blk_frozen BK231.out 1; obtain ⟨Ao42, co42, eo42⟩ := Kd.R_slice HO229.out; subst eo42))
  (try simp only [Act.put, List.setIfInBounds_toArray, List.set_cons_zero, List.set_cons_succ])
  go_cut [48] (fun v48 wc => ∃ (kq : Nat) (x48_12 : Bool), v48 = .bool x48_12 ∧ Aside0 (laws_FnExactPassLock.j0 kq a1 a2 t215 t230 x48_12 l0_0 l0_1 t209 t212 t217 t220 t224 t227 = some true) ∧ Aside0 (kq ≤ k) ∧ Aside0 (Kd.R (Kd.int .i64) 3 wc w.heap.size (fun k_ => nS k_ Ao30 t217.length co30 ∧ nS k_ Ao37 t224.length co37) (.slice Ao23 t209.length co23) t209) ∧ Aside0 (Kd.R Kd.bool 4 wc w.heap.size (fun k_ => nS k_ Ao34 t220.length co34 ∧ nS k_ Ao42 t227.length co42) (.slice Ao26 t212.length co26) t212) ∧ Aside0 (Kd.R (Kd.int .i64) 3 wc w.heap.size (fun k_ => nS k_ Ao23 t209.length co23 ∧ nS k_ Ao37 t224.length co37) (.slice Ao30 t217.length co30) t217) ∧ Aside0 (Kd.R Kd.bool 4 wc w.heap.size (fun k_ => nS k_ Ao26 t212.length co26 ∧ nS k_ Ao42 t227.length co42) (.slice Ao34 t220.length co34) t220) ∧ Aside0 (Kd.R (Kd.int .i64) 3 wc w.heap.size (fun k_ => nS k_ Ao23 t209.length co23 ∧ nS k_ Ao30 t217.length co30) (.slice Ao37 t224.length co37) t224) ∧ Aside0 (Kd.R Kd.bool 4 wc w.heap.size (fun k_ => nS k_ Ao26 t212.length co26 ∧ nS k_ Ao34 t220.length co34) (.slice Ao42 t227.length co42) t227) ∧ Aside0 (wc.heap[gb201]? = some (.cells #[(.slice A0_0 l0_0.length c0_0), (.slice A0_1 l0_1.length c0_1)] 25 (0, 0))) ∧ Aside0 (wc.heap[gb216]? = some (.cells #[(.slice Ao23 t209.length co23), (.slice Ao26 t212.length co26)] 29 (0, 0))) ∧ Aside0 (wc.heap[gb223]? = some (.cells #[(.slice Ao30 t217.length co30), (.slice Ao34 t220.length co34)] 29 (0, 0))) ∧ Aside0 (wc.heap[gb231]? = some (.cells #[(.slice Ao37 t224.length co37), (.slice Ao42 t227.length co42)] 29 (0, 0))) ∧ Aside0 (Below w.heap.size w wc))
  case first =>
   have H := HC13.out
   clear HC13
   replace H := Option.bind_eq_some_iff.mp H
   obtain ⟨t232, A430, H⟩ := H
   replace H : (if t232 = true then (laws_FnExactPassLock.j0 k a1 a2 t215 t230 (t230 != t215) l0_0 l0_1 t209 t212 t217 t220 t224 t227) else (laws_FnExactPassLock.j0 k a1 a2 t215 t230 true l0_0 l0_1 t209 t212 t217 t220 t224 t227)) = some true := H
   have A43 := Aside0.mk A430
   clear A430
   by_cases c44 : t232 = true
   ·subst c44
    have H1 : (laws_FnExactPassLock.j0 k a1 a2 t215 t230 (t230 != t215) l0_0 l0_1 t209 t212 t217 t220 t224 t227) = some true := by first | (rw [if_pos rfl] at H; exact H) | rfl
    clear H
    have H := H1
    clear H1
    have H' := Aside0.mk H
    clear H
    have hnb45 := NB231_201.out
    have hnc45 := NB201_231.out
    have hnb46 := NB231_216.out
    have hnc46 := NB216_231.out
    have hnb47 := NB231_223.out
    have hnc47 := NB223_231.out
    have hcz48_0 : w36.cell? ⟨gb231, 0, none⟩ = some (.slice none 0 0) := (blk_cell BK231.out 0).trans rfl
    have hcz48_1 : w36.cell? ⟨gb231, 1, none⟩ = some (.slice none 0 0) := (blk_cell BK231.out 1).trans rfl
    have hfz48_0 := blk_frozen BK231.out 0
    have hfz48_1 := blk_frozen BK231.out 1
    have hnb49 := NB216_201.out
    have hnc49 := NB201_216.out
    have hnb50 := NB216_223.out
    have hnc50 := NB223_216.out
    have hcz51_0 : w36.cell? ⟨gb216, 0, none⟩ = some (.slice Ao23 t209.length co23) := (blk_cell BK216.out 0).trans rfl
    have hcz51_1 : w36.cell? ⟨gb216, 1, none⟩ = some (.slice Ao26 t212.length co26) := (blk_cell BK216.out 1).trans rfl
    have hfz51_0 := blk_frozen BK216.out 0
    have hfz51_1 := blk_frozen BK216.out 1
    go_wp2_with (first | ((with_reducible refine gate_callee (f := 14) rfl ?_); refine goesL_ (some 42) rfl rfl Try.func14 (by kernel_rfl) rfl #[.agg #[.slice Ao37 t224.length co37, .slice Ao42 t227.length co42], .agg #[.slice Ao23 t209.length co23, .slice Ao26 t212.length co26]] rfl (by (try simp only [List.map_toArray, List.map_cons, List.map_nil]); first | done | rfl | (simp only [List.length_drop, List.length_take]; rfl)) ?_; (with_reducible refine (laws_eqFlight.calls k _ _ t224 _ _ t227 _ _ t209 _ _ t212 true _ ?side1 ?side2 ?side3 ?side4 ?side5 ?side6 ?side7 ?side8 A43.out).mono ?_); (case side1 => refine (Kd.R_reads' (e := 3) (base := w.heap.size) (ok := fun k_ => (((True ∧ nS k_ Ao19 t203.length co19) ∧ nS k_ Ao23 t209.length co23) ∧ nS k_ Ao30 t217.length co30)) (n := t224.length) (c := co37) ?_).2.2; exact (by (with_reducible repeat (first | apply Kd.R_alloc | apply Kd.R_drewN | apply Kd.R_drew)); exact (Kd.R_mono (Kd.R_far (p := ⟨gb231, 1, none⟩) (Kd.R_far (p := ⟨gb231, 0, none⟩) (Kd.R_types HO226.out BK231.out (by decide)) (fun _ hk => hk.2) (.slice Ao37 t224.length co37)) (fun _ hk => hk.2) (.slice Ao42 t227.length co42)) (fun _ h_ => h_.1)))); (case side2 => exact (Kd.R_reads' HO226.out).2.1); (case side3 => refine (Kd.R_reads' (e := 4) (base := w.heap.size) (ok := fun k_ => (((True ∧ nS k_ Ao20 t206.length co20) ∧ nS k_ Ao26 t212.length co26) ∧ nS k_ Ao34 t220.length co34)) (n := t227.length) (c := co42) ?_).2.2; exact (by (with_reducible repeat (first | apply Kd.R_alloc | apply Kd.R_drewN | apply Kd.R_drew)); exact (Kd.R_mono (Kd.R_far (p := ⟨gb231, 1, none⟩) (Kd.R_far (p := ⟨gb231, 0, none⟩) (Kd.R_types HO229.out BK231.out (by decide)) (fun _ hk => hk.2) (.slice Ao37 t224.length co37)) (fun _ hk => hk.2) (.slice Ao42 t227.length co42)) (fun _ h_ => h_.1)))); (case side4 => exact (Kd.R_reads' HO229.out).2.1); (case side5 => refine (Kd.R_reads' (e := 3) (base := w.heap.size) (ok := fun k_ => (((True ∧ nS k_ Ao19 t203.length co19) ∧ nS k_ Ao30 t217.length co30) ∧ nS k_ Ao37 t224.length co37)) (n := t209.length) (c := co23) ?_).2.2; exact (by (with_reducible repeat (first | apply Kd.R_alloc | apply Kd.R_drewN | apply Kd.R_drew)); exact (Kd.R_mono (Kd.R_far (p := ⟨gb231, 1, none⟩) (Kd.R_far (p := ⟨gb231, 0, none⟩) (Kd.R_types HO211.out BK231.out (by decide)) (fun _ hk => hk.2) (.slice Ao37 t224.length co37)) (fun _ hk => hk.2) (.slice Ao42 t227.length co42)) (fun _ h_ => h_.1)))); (case side6 => exact (Kd.R_reads' HO211.out).2.1); (case side7 => refine (Kd.R_reads' (e := 4) (base := w.heap.size) (ok := fun k_ => (((True ∧ nS k_ Ao20 t206.length co20) ∧ nS k_ Ao34 t220.length co34) ∧ nS k_ Ao42 t227.length co42)) (n := t212.length) (c := co26) ?_).2.2; exact (by (with_reducible repeat (first | apply Kd.R_alloc | apply Kd.R_drewN | apply Kd.R_drew)); exact (Kd.R_mono (Kd.R_far (p := ⟨gb231, 1, none⟩) (Kd.R_far (p := ⟨gb231, 0, none⟩) (Kd.R_types HO214.out BK231.out (by decide)) (fun _ hk => hk.2) (.slice Ao37 t224.length co37)) (fun _ hk => hk.2) (.slice Ao42 t227.length co42)) (fun _ h_ => h_.1)))); (case side8 => exact (Kd.R_reads' HO214.out).2.1); rintro e w52 ⟨rfl, hb⟩; refine ⟨_, rfl, ?_⟩; replace HO205 := Aside0.mk (Kd.R_below (by (with_reducible repeat (first | apply Kd.R_alloc | apply Kd.R_drewN | apply Kd.R_drew)); exact (Kd.R_mono (Kd.R_far (p := ⟨gb231, 1, none⟩) (Kd.R_far (p := ⟨gb231, 0, none⟩) (Kd.R_types HO205.out BK231.out (by decide)) (fun _ hk => hk.2) (.slice Ao37 t224.length co37)) (fun _ hk => hk.2) (.slice Ao42 t227.length co42)) (fun _ h_ => h_.1))) hb); replace HO208 := Aside0.mk (Kd.R_below (by (with_reducible repeat (first | apply Kd.R_alloc | apply Kd.R_drewN | apply Kd.R_drew)); exact (Kd.R_mono (Kd.R_far (p := ⟨gb231, 1, none⟩) (Kd.R_far (p := ⟨gb231, 0, none⟩) (Kd.R_types HO208.out BK231.out (by decide)) (fun _ hk => hk.2) (.slice Ao37 t224.length co37)) (fun _ hk => hk.2) (.slice Ao42 t227.length co42)) (fun _ h_ => h_.1))) hb); replace HO211 := Aside0.mk (Kd.R_below (by (with_reducible repeat (first | apply Kd.R_alloc | apply Kd.R_drewN | apply Kd.R_drew)); exact (Kd.R_mono (Kd.R_far (p := ⟨gb231, 1, none⟩) (Kd.R_far (p := ⟨gb231, 0, none⟩) (Kd.R_types HO211.out BK231.out (by decide)) (fun _ hk => hk.2) (.slice Ao37 t224.length co37)) (fun _ hk => hk.2) (.slice Ao42 t227.length co42)) (fun _ h_ => h_.1))) hb); replace HO214 := Aside0.mk (Kd.R_below (by (with_reducible repeat (first | apply Kd.R_alloc | apply Kd.R_drewN | apply Kd.R_drew)); exact (Kd.R_mono (Kd.R_far (p := ⟨gb231, 1, none⟩) (Kd.R_far (p := ⟨gb231, 0, none⟩) (Kd.R_types HO214.out BK231.out (by decide)) (fun _ hk => hk.2) (.slice Ao37 t224.length co37)) (fun _ hk => hk.2) (.slice Ao42 t227.length co42)) (fun _ h_ => h_.1))) hb); replace HO219 := Aside0.mk (Kd.R_below (by (with_reducible repeat (first | apply Kd.R_alloc | apply Kd.R_drewN | apply Kd.R_drew)); exact (Kd.R_mono (Kd.R_far (p := ⟨gb231, 1, none⟩) (Kd.R_far (p := ⟨gb231, 0, none⟩) (Kd.R_types HO219.out BK231.out (by decide)) (fun _ hk => hk.2) (.slice Ao37 t224.length co37)) (fun _ hk => hk.2) (.slice Ao42 t227.length co42)) (fun _ h_ => h_.1))) hb); replace HO222 := Aside0.mk (Kd.R_below (by (with_reducible repeat (first | apply Kd.R_alloc | apply Kd.R_drewN | apply Kd.R_drew)); exact (Kd.R_mono (Kd.R_far (p := ⟨gb231, 1, none⟩) (Kd.R_far (p := ⟨gb231, 0, none⟩) (Kd.R_types HO222.out BK231.out (by decide)) (fun _ hk => hk.2) (.slice Ao37 t224.length co37)) (fun _ hk => hk.2) (.slice Ao42 t227.length co42)) (fun _ h_ => h_.1))) hb); replace HO226 := Aside0.mk (Kd.R_below (by (with_reducible repeat (first | apply Kd.R_alloc | apply Kd.R_drewN | apply Kd.R_drew)); exact (Kd.R_mono (Kd.R_far (p := ⟨gb231, 1, none⟩) (Kd.R_far (p := ⟨gb231, 0, none⟩) (Kd.R_types HO226.out BK231.out (by decide)) (fun _ hk => hk.2) (.slice Ao37 t224.length co37)) (fun _ hk => hk.2) (.slice Ao42 t227.length co42)) (fun _ h_ => h_.1))) hb); replace HO229 := Aside0.mk (Kd.R_below (by (with_reducible repeat (first | apply Kd.R_alloc | apply Kd.R_drewN | apply Kd.R_drew)); exact (Kd.R_mono (Kd.R_far (p := ⟨gb231, 1, none⟩) (Kd.R_far (p := ⟨gb231, 0, none⟩) (Kd.R_types HO229.out BK231.out (by decide)) (fun _ hk => hk.2) (.slice Ao37 t224.length co37)) (fun _ hk => hk.2) (.slice Ao42 t227.length co42)) (fun _ h_ => h_.1))) hb); replace BK201 := Aside0.mk (blk_below (g := gb201) (o := .cells #[.slice A0_0 l0_0.length c0_0, .slice A0_1 l0_1.length c0_1] 25 (0, 0)) (xff NB201_231.out NB201_231.out BK201.out) hb); replace BK216 := Aside0.mk (blk_below (g := gb216) (o := .cells #[.slice Ao23 t209.length co23, .slice Ao26 t212.length co26] 29 (0, 0)) (xff NB216_231.out NB216_231.out BK216.out) hb); replace BK223 := Aside0.mk (blk_below (g := gb223) (o := .cells #[.slice Ao30 t217.length co30, .slice Ao34 t220.length co34] 29 (0, 0)) (xff NB223_231.out NB223_231.out BK223.out) hb); replace BK231 := Aside0.mk (blk_below (g := gb231) (o := .cells #[.slice Ao37 t224.length co37, .slice Ao42 t227.length co42] 29 (0, 0)) (by (with_reducible repeat (first | refine blk_drewN ?_ _ | refine blk_drew ?_ | refine blk_alloc ?_ _)); refine blk_put (cs := #[.slice Ao37 t224.length co37, .slice none 0 0]) ?_ 1 _ rfl; (with_reducible repeat (first | refine blk_drewN ?_ _ | refine blk_drew ?_ | refine blk_alloc ?_ _)); refine blk_put (cs := #[.slice none 0 0, .slice none 0 0]) ?_ 0 _ rfl; (with_reducible repeat (first | refine blk_drewN ?_ _ | refine blk_drew ?_ | refine blk_alloc ?_ _)); exact BK231.out) hb); replace HB := xp HB hb; (try clear hb); (try clear hb2); (try clear hk); (try clear hi)))
    go_meet
    case rel => exact ⟨_, ((t230 != t215)), (by first | rfl | (simp; done) | (simp [*]; done)), H', ⟨by first | omega | exact Nat.le_refl _⟩, ⟨xm HO211 (fun _ hk => ⟨hk.1.2, hk.2⟩)⟩, ⟨xm HO214 (fun _ hk => ⟨hk.1.2, hk.2⟩)⟩, ⟨xm HO219 (fun _ hk => ⟨hk.1.2, hk.2⟩)⟩, ⟨xm HO222 (fun _ hk => ⟨hk.1.2, hk.2⟩)⟩, ⟨xm HO226 (fun _ hk => ⟨hk.1.2, hk.2⟩)⟩, ⟨xm HO229 (fun _ hk => ⟨hk.1.2, hk.2⟩)⟩, ⟨xb BK201.out⟩, ⟨xb BK216.out⟩, ⟨xb BK223.out⟩, ⟨xb BK231.out⟩, ⟨xs HB.out⟩⟩
   ·replace c44 := Bool.eq_false_iff.mpr c44
    subst c44
    have H1 : (laws_FnExactPassLock.j0 k a1 a2 t215 t230 true l0_0 l0_1 t209 t212 t217 t220 t224 t227) = some true := by first | (rw [if_neg (show ¬ (false = true) by decide)] at H; exact H) | rfl
    clear H
    have H := H1
    clear H1
    have H' := Aside0.mk H
    clear H
    have hnb53 := NB231_201.out
    have hnc53 := NB201_231.out
    have hnb54 := NB231_216.out
    have hnc54 := NB216_231.out
    have hnb55 := NB231_223.out
    have hnc55 := NB223_231.out
    have hcz56_0 : w36.cell? ⟨gb231, 0, none⟩ = some (.slice none 0 0) := (blk_cell BK231.out 0).trans rfl
    have hcz56_1 : w36.cell? ⟨gb231, 1, none⟩ = some (.slice none 0 0) := (blk_cell BK231.out 1).trans rfl
    have hfz56_0 := blk_frozen BK231.out 0
    have hfz56_1 := blk_frozen BK231.out 1
    have hnb57 := NB216_201.out
    have hnc57 := NB201_216.out
    have hnb58 := NB216_223.out
    have hnc58 := NB223_216.out
    have hcz59_0 : w36.cell? ⟨gb216, 0, none⟩ = some (.slice Ao23 t209.length co23) := (blk_cell BK216.out 0).trans rfl
    have hcz59_1 : w36.cell? ⟨gb216, 1, none⟩ = some (.slice Ao26 t212.length co26) := (blk_cell BK216.out 1).trans rfl
    have hfz59_0 := blk_frozen BK216.out 0
    have hfz59_1 := blk_frozen BK216.out 1
    go_wp2_with (first | ((with_reducible refine gate_callee (f := 14) rfl ?_); refine goesL_ (some 42) rfl rfl Try.func14 (by kernel_rfl) rfl #[.agg #[.slice Ao37 t224.length co37, .slice Ao42 t227.length co42], .agg #[.slice Ao23 t209.length co23, .slice Ao26 t212.length co26]] rfl (by (try simp only [List.map_toArray, List.map_cons, List.map_nil]); first | done | rfl | (simp only [List.length_drop, List.length_take]; rfl)) ?_; (with_reducible refine (laws_eqFlight.calls k _ _ t224 _ _ t227 _ _ t209 _ _ t212 false _ ?side1 ?side2 ?side3 ?side4 ?side5 ?side6 ?side7 ?side8 A43.out).mono ?_); (case side1 => refine (Kd.R_reads' (e := 3) (base := w.heap.size) (ok := fun k_ => (((True ∧ nS k_ Ao19 t203.length co19) ∧ nS k_ Ao23 t209.length co23) ∧ nS k_ Ao30 t217.length co30)) (n := t224.length) (c := co37) ?_).2.2; exact (by (with_reducible repeat (first | apply Kd.R_alloc | apply Kd.R_drewN | apply Kd.R_drew)); exact (Kd.R_mono (Kd.R_far (p := ⟨gb231, 1, none⟩) (Kd.R_far (p := ⟨gb231, 0, none⟩) (Kd.R_types HO226.out BK231.out (by decide)) (fun _ hk => hk.2) (.slice Ao37 t224.length co37)) (fun _ hk => hk.2) (.slice Ao42 t227.length co42)) (fun _ h_ => h_.1)))); (case side2 => exact (Kd.R_reads' HO226.out).2.1); (case side3 => refine (Kd.R_reads' (e := 4) (base := w.heap.size) (ok := fun k_ => (((True ∧ nS k_ Ao20 t206.length co20) ∧ nS k_ Ao26 t212.length co26) ∧ nS k_ Ao34 t220.length co34)) (n := t227.length) (c := co42) ?_).2.2; exact (by (with_reducible repeat (first | apply Kd.R_alloc | apply Kd.R_drewN | apply Kd.R_drew)); exact (Kd.R_mono (Kd.R_far (p := ⟨gb231, 1, none⟩) (Kd.R_far (p := ⟨gb231, 0, none⟩) (Kd.R_types HO229.out BK231.out (by decide)) (fun _ hk => hk.2) (.slice Ao37 t224.length co37)) (fun _ hk => hk.2) (.slice Ao42 t227.length co42)) (fun _ h_ => h_.1)))); (case side4 => exact (Kd.R_reads' HO229.out).2.1); (case side5 => refine (Kd.R_reads' (e := 3) (base := w.heap.size) (ok := fun k_ => (((True ∧ nS k_ Ao19 t203.length co19) ∧ nS k_ Ao30 t217.length co30) ∧ nS k_ Ao37 t224.length co37)) (n := t209.length) (c := co23) ?_).2.2; exact (by (with_reducible repeat (first | apply Kd.R_alloc | apply Kd.R_drewN | apply Kd.R_drew)); exact (Kd.R_mono (Kd.R_far (p := ⟨gb231, 1, none⟩) (Kd.R_far (p := ⟨gb231, 0, none⟩) (Kd.R_types HO211.out BK231.out (by decide)) (fun _ hk => hk.2) (.slice Ao37 t224.length co37)) (fun _ hk => hk.2) (.slice Ao42 t227.length co42)) (fun _ h_ => h_.1)))); (case side6 => exact (Kd.R_reads' HO211.out).2.1); (case side7 => refine (Kd.R_reads' (e := 4) (base := w.heap.size) (ok := fun k_ => (((True ∧ nS k_ Ao20 t206.length co20) ∧ nS k_ Ao34 t220.length co34) ∧ nS k_ Ao42 t227.length co42)) (n := t212.length) (c := co26) ?_).2.2; exact (by (with_reducible repeat (first | apply Kd.R_alloc | apply Kd.R_drewN | apply Kd.R_drew)); exact (Kd.R_mono (Kd.R_far (p := ⟨gb231, 1, none⟩) (Kd.R_far (p := ⟨gb231, 0, none⟩) (Kd.R_types HO214.out BK231.out (by decide)) (fun _ hk => hk.2) (.slice Ao37 t224.length co37)) (fun _ hk => hk.2) (.slice Ao42 t227.length co42)) (fun _ h_ => h_.1)))); (case side8 => exact (Kd.R_reads' HO214.out).2.1); rintro e w60 ⟨rfl, hb⟩; refine ⟨_, rfl, ?_⟩; replace HO205 := Aside0.mk (Kd.R_below (by (with_reducible repeat (first | apply Kd.R_alloc | apply Kd.R_drewN | apply Kd.R_drew)); exact (Kd.R_mono (Kd.R_far (p := ⟨gb231, 1, none⟩) (Kd.R_far (p := ⟨gb231, 0, none⟩) (Kd.R_types HO205.out BK231.out (by decide)) (fun _ hk => hk.2) (.slice Ao37 t224.length co37)) (fun _ hk => hk.2) (.slice Ao42 t227.length co42)) (fun _ h_ => h_.1))) hb); replace HO208 := Aside0.mk (Kd.R_below (by (with_reducible repeat (first | apply Kd.R_alloc | apply Kd.R_drewN | apply Kd.R_drew)); exact (Kd.R_mono (Kd.R_far (p := ⟨gb231, 1, none⟩) (Kd.R_far (p := ⟨gb231, 0, none⟩) (Kd.R_types HO208.out BK231.out (by decide)) (fun _ hk => hk.2) (.slice Ao37 t224.length co37)) (fun _ hk => hk.2) (.slice Ao42 t227.length co42)) (fun _ h_ => h_.1))) hb); replace HO211 := Aside0.mk (Kd.R_below (by (with_reducible repeat (first | apply Kd.R_alloc | apply Kd.R_drewN | apply Kd.R_drew)); exact (Kd.R_mono (Kd.R_far (p := ⟨gb231, 1, none⟩) (Kd.R_far (p := ⟨gb231, 0, none⟩) (Kd.R_types HO211.out BK231.out (by decide)) (fun _ hk => hk.2) (.slice Ao37 t224.length co37)) (fun _ hk => hk.2) (.slice Ao42 t227.length co42)) (fun _ h_ => h_.1))) hb); replace HO214 := Aside0.mk (Kd.R_below (by (with_reducible repeat (first | apply Kd.R_alloc | apply Kd.R_drewN | apply Kd.R_drew)); exact (Kd.R_mono (Kd.R_far (p := ⟨gb231, 1, none⟩) (Kd.R_far (p := ⟨gb231, 0, none⟩) (Kd.R_types HO214.out BK231.out (by decide)) (fun _ hk => hk.2) (.slice Ao37 t224.length co37)) (fun _ hk => hk.2) (.slice Ao42 t227.length co42)) (fun _ h_ => h_.1))) hb); replace HO219 := Aside0.mk (Kd.R_below (by (with_reducible repeat (first | apply Kd.R_alloc | apply Kd.R_drewN | apply Kd.R_drew)); exact (Kd.R_mono (Kd.R_far (p := ⟨gb231, 1, none⟩) (Kd.R_far (p := ⟨gb231, 0, none⟩) (Kd.R_types HO219.out BK231.out (by decide)) (fun _ hk => hk.2) (.slice Ao37 t224.length co37)) (fun _ hk => hk.2) (.slice Ao42 t227.length co42)) (fun _ h_ => h_.1))) hb); replace HO222 := Aside0.mk (Kd.R_below (by (with_reducible repeat (first | apply Kd.R_alloc | apply Kd.R_drewN | apply Kd.R_drew)); exact (Kd.R_mono (Kd.R_far (p := ⟨gb231, 1, none⟩) (Kd.R_far (p := ⟨gb231, 0, none⟩) (Kd.R_types HO222.out BK231.out (by decide)) (fun _ hk => hk.2) (.slice Ao37 t224.length co37)) (fun _ hk => hk.2) (.slice Ao42 t227.length co42)) (fun _ h_ => h_.1))) hb); replace HO226 := Aside0.mk (Kd.R_below (by (with_reducible repeat (first | apply Kd.R_alloc | apply Kd.R_drewN | apply Kd.R_drew)); exact (Kd.R_mono (Kd.R_far (p := ⟨gb231, 1, none⟩) (Kd.R_far (p := ⟨gb231, 0, none⟩) (Kd.R_types HO226.out BK231.out (by decide)) (fun _ hk => hk.2) (.slice Ao37 t224.length co37)) (fun _ hk => hk.2) (.slice Ao42 t227.length co42)) (fun _ h_ => h_.1))) hb); replace HO229 := Aside0.mk (Kd.R_below (by (with_reducible repeat (first | apply Kd.R_alloc | apply Kd.R_drewN | apply Kd.R_drew)); exact (Kd.R_mono (Kd.R_far (p := ⟨gb231, 1, none⟩) (Kd.R_far (p := ⟨gb231, 0, none⟩) (Kd.R_types HO229.out BK231.out (by decide)) (fun _ hk => hk.2) (.slice Ao37 t224.length co37)) (fun _ hk => hk.2) (.slice Ao42 t227.length co42)) (fun _ h_ => h_.1))) hb); replace BK201 := Aside0.mk (blk_below (g := gb201) (o := .cells #[.slice A0_0 l0_0.length c0_0, .slice A0_1 l0_1.length c0_1] 25 (0, 0)) (xff NB201_231.out NB201_231.out BK201.out) hb); replace BK216 := Aside0.mk (blk_below (g := gb216) (o := .cells #[.slice Ao23 t209.length co23, .slice Ao26 t212.length co26] 29 (0, 0)) (xff NB216_231.out NB216_231.out BK216.out) hb); replace BK223 := Aside0.mk (blk_below (g := gb223) (o := .cells #[.slice Ao30 t217.length co30, .slice Ao34 t220.length co34] 29 (0, 0)) (xff NB223_231.out NB223_231.out BK223.out) hb); replace BK231 := Aside0.mk (blk_below (g := gb231) (o := .cells #[.slice Ao37 t224.length co37, .slice Ao42 t227.length co42] 29 (0, 0)) (by (with_reducible repeat (first | refine blk_drewN ?_ _ | refine blk_drew ?_ | refine blk_alloc ?_ _)); refine blk_put (cs := #[.slice Ao37 t224.length co37, .slice none 0 0]) ?_ 1 _ rfl; (with_reducible repeat (first | refine blk_drewN ?_ _ | refine blk_drew ?_ | refine blk_alloc ?_ _)); refine blk_put (cs := #[.slice none 0 0, .slice none 0 0]) ?_ 0 _ rfl; (with_reducible repeat (first | refine blk_drewN ?_ _ | refine blk_drew ?_ | refine blk_alloc ?_ _)); exact BK231.out) hb); replace HB := xp HB hb; (try clear hb); (try clear hb2); (try clear hk); (try clear hi)))
    go_meet
    case rel => exact ⟨_, (true), (by first | rfl | (simp; done) | (simp [*]; done)), H', ⟨by first | omega | exact Nat.le_refl _⟩, ⟨xm HO211 (fun _ hk => ⟨hk.1.2, hk.2⟩)⟩, ⟨xm HO214 (fun _ hk => ⟨hk.1.2, hk.2⟩)⟩, ⟨xm HO219 (fun _ hk => ⟨hk.1.2, hk.2⟩)⟩, ⟨xm HO222 (fun _ hk => ⟨hk.1.2, hk.2⟩)⟩, ⟨xm HO226 (fun _ hk => ⟨hk.1.2, hk.2⟩)⟩, ⟨xm HO229 (fun _ hk => ⟨hk.1.2, hk.2⟩)⟩, ⟨xb BK201.out⟩, ⟨xb BK216.out⟩, ⟨xb BK223.out⟩, ⟨xb BK231.out⟩, ⟨xs HB.out⟩⟩
  case rest =>
   clear HC13
   try clear c1
   try clear c2
   try clear p2
   try clear c3
   try clear c4
   try clear c5
   try clear c5b0
   try clear c8
   try clear c10
   try clear c12
   try clear c14
   try clear c24
   try clear c25
   try clear c26
   try clear c31
   try clear c32
   try clear c38
   try clear c39
   try clear c40
   try clear c44
   try clear c45
   try clear c46
   try clear c47
   try clear c49
   try clear c50
   try clear c53
   try clear c54
   try clear c55
   try clear c57
   try clear c58
   try clear hcz15_0
   try clear hcz15_1
   try clear hcz17_0
   try clear hcz17_1
   try clear hcz25_0
   try clear hcz25_1
   try clear hcz27_0
   try clear hcz27_1
   try clear hcz33_0
   try clear hcz33_1
   try clear hcz41_0
   try clear hcz41_1
   try clear hcz48_0
   try clear hcz48_1
   try clear hcz51_0
   try clear hcz51_1
   try clear hcz56_0
   try clear hcz56_1
   try clear hcz59_0
   try clear hcz59_1
   try clear hcz7_0
   try clear hcz7_1
   try clear hfz15_0
   try clear hfz15_1
   try clear hfz17_0
   try clear hfz17_1
   try clear hfz25_0
   try clear hfz25_1
   try clear hfz27_0
   try clear hfz27_1
   try clear hfz33_0
   try clear hfz33_1
   try clear hfz41_0
   try clear hfz41_1
   try clear hfz48_0
   try clear hfz48_1
   try clear hfz51_0
   try clear hfz51_1
   try clear hfz56_0
   try clear hfz56_1
   try clear hfz59_0
   try clear hfz59_1
   try clear hfz7_0
   try clear hfz7_1
   obtain ⟨kq, x48_12, rfl, HA, HJ12, HO_217000, HO_217001, HO_224000, HO_224001, HO_232000, HO_232001, BK201, BK216, BK223, BK231, HB⟩ := hcut
   cases kq with
   | zero => exact absurd HA.out (by simp [laws_FnExactPassLock.j0])
   | succ kj12 =>
    have H := HA.out
    clear HA
    simp only [laws_FnExactPassLock.j0] at H
    by_cases c61 : x48_12 = true
    ·subst c61
     have H1 : (some false) = some true := by first | (rw [if_pos rfl] at H; exact H) | rfl
     clear H
     have H := H1
     clear H1
     exact absurd H (by simp)
    ·replace c61 := Bool.eq_false_iff.mpr c61
     subst c61
     have H1 : ((laws_toFlight.f kj12 l0_0 l0_1).bind fun bt233 => ((laws_eqFlight.f kj12 t217 t220 bt233.1 bt233.2).bind fun t239 => (if t239 = true then ((laws_markFlight.f kj12 t217 t220 1).bind fun bt240 => (if bt240.1 < 0 then (laws_FnExactPassLock.j1 kj12 a1 a2 t215 true l0_0 l0_1 t209 t212 t224 t227) else ((laws_eqFlight.f kj12 t224 t227 t209 t212).bind fun t243 => (if t243 = true then (laws_FnExactPassLock.j1 kj12 a1 a2 t215 (t230 != t215) l0_0 l0_1 t209 t212 t224 t227) else (laws_FnExactPassLock.j1 kj12 a1 a2 t215 true l0_0 l0_1 t209 t212 t224 t227))))) else (some false)))) = some true := by first | (rw [if_neg (show ¬ (false = true) by decide)] at H; exact H) | rfl
     clear H
     have H := H1
     clear H1
     replace H := Option.bind_eq_some_iff.mp H
     obtain ⟨⟨t233, t236⟩, A620, H⟩ := H
     replace H : ((laws_eqFlight.f kj12 t217 t220 t233 t236).bind fun t239 => (if t239 = true then ((laws_markFlight.f kj12 t217 t220 1).bind fun bt240 => (if bt240.1 < 0 then (laws_FnExactPassLock.j1 kj12 a1 a2 t215 true l0_0 l0_1 t209 t212 t224 t227) else ((laws_eqFlight.f kj12 t224 t227 t209 t212).bind fun t243 => (if t243 = true then (laws_FnExactPassLock.j1 kj12 a1 a2 t215 (t230 != t215) l0_0 l0_1 t209 t212 t224 t227) else (laws_FnExactPassLock.j1 kj12 a1 a2 t215 true l0_0 l0_1 t209 t212 t224 t227))))) else (some false))) = some true := H
     have A62 := Aside0.mk A620
     clear A620
     replace H := Option.bind_eq_some_iff.mp H
     obtain ⟨t239, A630, H⟩ := H
     replace H : (if t239 = true then ((laws_markFlight.f kj12 t217 t220 1).bind fun bt240 => (if bt240.1 < 0 then (laws_FnExactPassLock.j1 kj12 a1 a2 t215 true l0_0 l0_1 t209 t212 t224 t227) else ((laws_eqFlight.f kj12 t224 t227 t209 t212).bind fun t243 => (if t243 = true then (laws_FnExactPassLock.j1 kj12 a1 a2 t215 (t230 != t215) l0_0 l0_1 t209 t212 t224 t227) else (laws_FnExactPassLock.j1 kj12 a1 a2 t215 true l0_0 l0_1 t209 t212 t224 t227))))) else (some false)) = some true := H
     have A63 := Aside0.mk A630
     clear A630
     by_cases c64 : t239 = true
     ·subst c64
      have H1 : ((laws_markFlight.f kj12 t217 t220 1).bind fun bt240 => (if bt240.1 < 0 then (laws_FnExactPassLock.j1 kj12 a1 a2 t215 true l0_0 l0_1 t209 t212 t224 t227) else ((laws_eqFlight.f kj12 t224 t227 t209 t212).bind fun t243 => (if t243 = true then (laws_FnExactPassLock.j1 kj12 a1 a2 t215 (t230 != t215) l0_0 l0_1 t209 t212 t224 t227) else (laws_FnExactPassLock.j1 kj12 a1 a2 t215 true l0_0 l0_1 t209 t212 t224 t227))))) = some true := by first | (rw [if_pos rfl] at H; exact H) | rfl
      clear H
      have H := H1
      clear H1
      replace H := Option.bind_eq_some_iff.mp H
      obtain ⟨⟨t240, t241, t242⟩, A650, H⟩ := H
      replace H : (if t240 < 0 then (laws_FnExactPassLock.j1 kj12 a1 a2 t215 true l0_0 l0_1 t209 t212 t224 t227) else ((laws_eqFlight.f kj12 t224 t227 t209 t212).bind fun t243 => (if t243 = true then (laws_FnExactPassLock.j1 kj12 a1 a2 t215 (t230 != t215) l0_0 l0_1 t209 t212 t224 t227) else (laws_FnExactPassLock.j1 kj12 a1 a2 t215 true l0_0 l0_1 t209 t212 t224 t227)))) = some true := H
      have A65 := Aside0.mk A650
      clear A650
      have HC66 := Aside0.mk H
      clear H
      try go_wp2
      replace HO_217000 := xw HO_217000
      replace HO_217001 := xw HO_217001
      replace HO_224000 := xw HO_224000
      replace HO_224001 := xw HO_224001
      replace HO_232000 := xw HO_232000
      replace HO_232001 := xw HO_232001
      replace BK201 := xv BK201
      replace BK216 := xv BK216
      replace BK223 := xv BK223
      replace BK231 := xv BK231
      replace HB := Aside0.mk (below_drew1 HB.out)
      refine start_ (n := 5) (S := fun w' => w'.cell? ⟨gb223, 0, none⟩ = some (.slice Ao30 t217.length co30) ∧ w'.cell? ⟨gb223, 1, none⟩ = some (.slice Ao34 t220.length co34) ∧ w'.cell? ⟨gb201, 0, none⟩ = some (.slice A0_0 l0_0.length c0_0) ∧ w'.cell? ⟨gb201, 1, none⟩ = some (.slice A0_1 l0_1.length c0_1)) (ds := []) #[false, false, false, false, false] (by kernel_rfl) rfl rfl ⟨(blk_cell BK223.out 0).trans rfl, (blk_cell BK223.out 1).trans rfl, (blk_cell BK201.out 0).trans rfl, (blk_cell BK201.out 1).trans rfl⟩ (fun hHeld => ?_)
      generalize wc.drew = w67 at HO_217000 HO_217001 HO_224000 HO_224001 HO_232000 HO_232001 BK201 BK216 BK223 BK231 HB hHeld ⊢
      refine take_ (i := 0) (N := some 49) (v := ?_) (a' := ?_) #[true, false, false, false, false] rfl rfl (by kernel_rfl) (fun _ _ _ h => h) (Or.inl ⟨by rfl, ?_⟩) hHeld ?_ ?_
      rotate_left
      ·rintro w' ⟨s0, s1, s2, s3⟩
       go_simp
       with_reducible rfl
      rotate_left
      ·simp only [Act.put, List.setIfInBounds_toArray, List.set_cons_zero, List.set_cons_succ, i64_w, i32_w]
       rfl
      refine take_ (i := 1) (N := some 50) (v := ?_) (a' := ?_) #[true, true, false, false, false] rfl rfl (by kernel_rfl) (fun _ _ _ h => h) (Or.inl ⟨by rfl, ?_⟩) hHeld ?_ ?_
      rotate_left
      ·rintro w' ⟨s0, s1, s2, s3⟩
       go_simp
       with_reducible rfl
      rotate_left
      ·simp only [Act.put, List.setIfInBounds_toArray, List.set_cons_zero, List.set_cons_succ, i64_w, i32_w]
       rfl
      refine one_ (i := 2) (N := some 51) #[true, true, true, false, false] rfl rfl (by kernel_rfl) (by decide) (fun K hK => ?_)
      refine goes_ Try.func12 (by kernel_rfl) rfl #[.agg #[.slice A0_0 l0_0.length c0_0, .slice A0_1 l0_1.length c0_1]] (by rfl) rfl rfl (by (try simp only [List.map_toArray, List.map_cons, List.map_nil]); first | done | rfl | (simp only [List.length_drop, List.length_take]; rfl)) ?_
      with_reducible refine (laws_toFlight.calls kj12 _ _ l0_0 _ _ l0_1 t233 t236 _ ?side1 ?side2 ?side3 ?side4 A62.out).mono ?_
      (case side1 => exact xd ((Kd.C_below HR0_0.out HB.out)))
      (case side2 => exact HC0_0.out)
      (case side3 => exact xd ((Kd.C_below HR0_1.out HB.out)))
      (case side4 => exact HC0_1.out)
      rintro e w68 ⟨v234, v237, rfl, ho0, ho1, hb⟩
      refine ⟨_, rfl, ?_⟩
      have HO235 := Aside0.mk (Kd.R_lower (Kd.R_new' (Kd.R_new' (Kd.R_new' ho0 (Kd.R_lt (xr HO_217000.out))) (Kd.R_lt (xr HO_224000.out))) (Kd.R_lt (xr HO_232000.out))) (below_size (xs HB.out)))
      replace HO_217000 := Aside0.mk (Kd.R_elder' (xr HO_217000.out) (Kd.R_base ho0) hb)
      replace HO_224000 := Aside0.mk (Kd.R_elder' (xr HO_224000.out) (Kd.R_base ho0) hb)
      replace HO_232000 := Aside0.mk (Kd.R_elder' (xr HO_232000.out) (Kd.R_base ho0) hb)
      have HO238 := Aside0.mk (Kd.R_lower (Kd.R_new' (Kd.R_new' (Kd.R_new' ho1 (Kd.R_lt (xr HO_217001.out))) (Kd.R_lt (xr HO_224001.out))) (Kd.R_lt (xr HO_232001.out))) (below_size (xs HB.out)))
      replace HO_217001 := Aside0.mk (Kd.R_elder' (xr HO_217001.out) (Kd.R_base ho1) hb)
      replace HO_224001 := Aside0.mk (Kd.R_elder' (xr HO_224001.out) (Kd.R_base ho1) hb)
      replace HO_232001 := Aside0.mk (Kd.R_elder' (xr HO_232001.out) (Kd.R_base ho1) hb)
      replace BK201 := xk BK201 hb
      replace BK216 := xk BK216 hb
      replace BK223 := xk BK223 hb
      replace BK231 := xk BK231 hb
      replace HB := xp HB hb
      (try clear hb)
      (try clear hb2)
      (try clear hk)
      (try clear hi)
      (try clear ho0)
      (try clear ho1)
      obtain ⟨Ao69, co69, eo69⟩ := Kd.R_slice HO235.out
      (first | subst eo69 | (injection eo69 with f1_ f2_ f3_; have f4_ := f1_.symm; have f5_ := f3_.symm; clear f1_ f2_ f3_; subst f4_; subst f5_))
      obtain ⟨Ao70, co70, eo70⟩ := Kd.R_slice HO238.out
      (first | subst eo70 | (injection eo70 with f1_ f2_ f3_; have f4_ := f1_.symm; have f5_ := f3_.symm; clear f1_ f2_ f3_; subst f4_; subst f5_))
      refine hK.out _ _ ⟨(blk_cell BK223.out 0).trans rfl, (blk_cell BK223.out 1).trans rfl, (blk_cell BK201.out 0).trans rfl, (blk_cell BK201.out 1).trans rfl⟩ (fun hHeld => ?_)
      clear hK K
      refine norm_ (a' := ?_) ?_ ?_
      rotate_left
      ·show Act.put _ (some 51) _ = _
       simp only [Act.put, List.setIfInBounds_toArray, List.set_cons_zero, List.set_cons_succ, i64_w, i32_w]
       rfl
      refine one_ (i := 3) (N := some 52) #[true, true, true, true, false] rfl rfl (by kernel_rfl) (by decide) (fun K hK => ?_)
      refine goes_ Try.func14 (by kernel_rfl) rfl #[.agg #[.slice Ao30 t217.length co30, .slice Ao34 t220.length co34], .agg #[.slice Ao69 t233.length co69, .slice Ao70 t236.length co70]] (by rfl) rfl rfl (by (try simp only [List.map_toArray, List.map_cons, List.map_nil]); first | done | rfl | (simp only [List.length_drop, List.length_take]; rfl)) ?_
      with_reducible refine (laws_eqFlight.calls kj12 _ _ t217 _ _ t220 _ _ t233 _ _ t236 true _ ?side1 ?side2 ?side3 ?side4 ?side5 ?side6 ?side7 ?side8 A63.out).mono ?_
      (case side1 => exact xd ((Kd.R_reads' HO_224000.out).2.2))
      (case side2 => exact (Kd.R_reads' HO_224000.out).2.1)
      (case side3 => exact xd ((Kd.R_reads' HO_224001.out).2.2))
      (case side4 => exact (Kd.R_reads' HO_224001.out).2.1)
      (case side5 => exact xd ((Kd.R_reads' HO235.out).2.2))
      (case side6 => exact (Kd.R_reads' HO235.out).2.1)
      (case side7 => exact xd ((Kd.R_reads' HO238.out).2.2))
      (case side8 => exact (Kd.R_reads' HO238.out).2.1)
      rintro e w71 ⟨rfl, hb⟩
      refine ⟨_, rfl, ?_⟩
      replace HO_217000 := xq HO_217000 hb
      replace HO_217001 := xq HO_217001 hb
      replace HO_224000 := xq HO_224000 hb
      replace HO_224001 := xq HO_224001 hb
      replace HO_232000 := xq HO_232000 hb
      replace HO_232001 := xq HO_232001 hb
      replace HO235 := xq HO235 hb
      replace HO238 := xq HO238 hb
      replace BK201 := xk BK201 hb
      replace BK216 := xk BK216 hb
      replace BK223 := xk BK223 hb
      replace BK231 := xk BK231 hb
      replace HB := xp HB hb
      (try clear hb)
      (try clear hb2)
      (try clear hk)
      (try clear hi)
      refine hK.out _ _ ⟨(blk_cell BK223.out 0).trans rfl, (blk_cell BK223.out 1).trans rfl, (blk_cell BK201.out 0).trans rfl, (blk_cell BK201.out 1).trans rfl⟩ (fun hHeld => ?_)
      clear hK K
      refine norm_ (a' := ?_) ?_ ?_
      rotate_left
      ·show Act.put _ (some 52) _ = _
       simp only [Act.put, List.setIfInBounds_toArray, List.set_cons_zero, List.set_cons_succ, i64_w, i32_w]
       rfl
      refine pure_ (i := 4) (N := some 53) (v := ?_) (a' := ?_) #[true, true, true, true, true] rfl rfl (by kernel_rfl) (fun _ _ _ h => h) (Or.inl ⟨by rfl, ?_⟩) ?_ ?_
      rotate_left
      ·intro w'
       go_simp
       with_reducible rfl
      rotate_left
      ·simp only [Act.put, List.setIfInBounds_toArray, List.set_cons_zero, List.set_cons_succ, i64_w, i32_w]
       rfl
      refine done_ (by kernel_rfl) ?_
      have hnb72 := NB223_201.out
      have hnc72 := NB201_223.out
      have hnb73 := NB223_216.out
      have hnc73 := NB216_223.out
      have hnb74 := NB223_231.out
      have hnc74 := NB231_223.out
      have hcz75_0 : w71.cell? ⟨gb223, 0, none⟩ = some (.slice Ao30 t217.length co30) := (blk_cell BK223.out 0).trans rfl
      have hcz75_1 : w71.cell? ⟨gb223, 1, none⟩ = some (.slice Ao34 t220.length co34) := (blk_cell BK223.out 1).trans rfl
      have hfz75_0 := blk_frozen BK223.out 0
      have hfz75_1 := blk_frozen BK223.out 1
      go_upto_region 14 with (first | ((with_reducible refine gate_callee (f := 19) rfl ?_); refine goesL_ (some 56) rfl rfl Try.func19 (by kernel_rfl) rfl #[.agg #[.slice Ao30 t217.length co30, .slice Ao34 t220.length co34], .int .i64 1] rfl (by (try simp only [List.map_toArray, List.map_cons, List.map_nil]); first | done | rfl | (simp only [List.length_drop, List.length_take]; rfl)) ?_; (with_reducible refine (laws_markFlight.calls kj12 (fun k_ => some k_ = (.slice Ao30 t217.length co30 : Value).ownBlock) (.slice Ao30 t217.length co30) t217 (fun k_ => some k_ = (.slice Ao34 t220.length co34 : Value).ownBlock) (.slice Ao34 t220.length co34) t220 1 t240 t241 t242 w _ ?side1 ?side2 ?side3 A65.out).mono ?_); (case side1 => repeat (first | (with_reducible first | exact HB.out | apply below_alloc | apply pw_below_drewN | apply below_drew1 | refine below_set ?_ GE201.out | refine below_set ?_ GE216.out | refine below_set ?_ GE223.out | refine below_set ?_ GE231.out) | exact HB.out)); (case side2 => exact Kd.R_tight rfl HO_224000.out); (case side3 => exact Kd.R_tight rfl HO_224001.out); rintro e w76 ⟨rfl, hy0, hy1, hb, hkp⟩; refine ⟨_, rfl, ?_⟩; replace HO_217000 := Aside0.mk (Kd.R_mono (ok' := fun k_ => nS k_ Ao30 t217.length co30 ∧ nS k_ Ao37 t224.length co37 ∧ nS k_ Ao69 t233.length co69) (Kd.R_keptB ((Kd.R_apart' HO_217000.out (Kd.R_typed HO_224001.out) (by decide))) hkp (fun k_ hk_ hs_ => Or.elim hs_ (fun e_ => (hk_.1.1.1) e_) (fun e_ => (hk_.2) e_))) (fun k_ hk_ => ⟨hk_.1.1.1.1, hk_.1.1.1.2, hk_.1.1.2⟩)); replace HO_217001 := Aside0.mk (Kd.R_mono (ok' := fun k_ => nS k_ Ao34 t220.length co34 ∧ nS k_ Ao42 t227.length co42 ∧ nS k_ Ao70 t236.length co70) (Kd.R_keptB ((Kd.R_apart' HO_217001.out (Kd.R_typed HO_224000.out) (by decide))) hkp (fun k_ hk_ hs_ => Or.elim hs_ (fun e_ => (hk_.2) e_) (fun e_ => (hk_.1.1.1) e_))) (fun k_ hk_ => ⟨hk_.1.1.1.1, hk_.1.1.1.2, hk_.1.1.2⟩)); replace HO_232000 := Aside0.mk (Kd.R_mono (ok' := fun k_ => nS k_ Ao23 t209.length co23 ∧ nS k_ Ao30 t217.length co30 ∧ nS k_ Ao69 t233.length co69) (Kd.R_keptB ((Kd.R_apart' HO_232000.out (Kd.R_typed HO_224001.out) (by decide))) hkp (fun k_ hk_ hs_ => Or.elim hs_ (fun e_ => (hk_.1.1.2) e_) (fun e_ => (hk_.2) e_))) (fun k_ hk_ => ⟨hk_.1.1.1.1, hk_.1.1.1.2, hk_.1.1.2⟩)); replace HO_232001 := Aside0.mk (Kd.R_mono (ok' := fun k_ => nS k_ Ao26 t212.length co26 ∧ nS k_ Ao34 t220.length co34 ∧ nS k_ Ao70 t236.length co70) (Kd.R_keptB ((Kd.R_apart' HO_232001.out (Kd.R_typed HO_224000.out) (by decide))) hkp (fun k_ hk_ hs_ => Or.elim hs_ (fun e_ => (hk_.2) e_) (fun e_ => (hk_.1.1.2) e_))) (fun k_ hk_ => ⟨hk_.1.1.1.1, hk_.1.1.1.2, hk_.1.1.2⟩)); replace BK201 := Aside0.mk (blk_kept (xb BK201.out) hkp (fun hs_ => Or.elim hs_ (fun e_ => (fun e_ => (Kd.R_ne HO_224000.out BK201.out (by decide)) e_) e_) (fun e_ => (fun e_ => (Kd.R_ne HO_224001.out BK201.out (by decide)) e_) e_))); replace BK216 := Aside0.mk (blk_kept (xb BK216.out) hkp (fun hs_ => Or.elim hs_ (fun e_ => (fun e_ => (Kd.R_ne HO_224000.out BK216.out (by decide)) e_) e_) (fun e_ => (fun e_ => (Kd.R_ne HO_224001.out BK216.out (by decide)) e_) e_))); replace BK223 := Aside0.mk (blk_kept (xb BK223.out) hkp (fun hs_ => Or.elim hs_ (fun e_ => (fun e_ => (Kd.R_ne HO_224000.out BK223.out (by decide)) e_) e_) (fun e_ => (fun e_ => (Kd.R_ne HO_224001.out BK223.out (by decide)) e_) e_))); replace BK231 := Aside0.mk (blk_kept (xb BK231.out) hkp (fun hs_ => Or.elim hs_ (fun e_ => (fun e_ => (Kd.R_ne HO_224000.out BK231.out (by decide)) e_) e_) (fun e_ => (fun e_ => (Kd.R_ne HO_224001.out BK231.out (by decide)) e_) e_))); replace HO235 := Aside0.mk (Kd.R_mono (ok' := fun k_ => nS k_ Ao23 t209.length co23 ∧ nS k_ Ao30 t217.length co30 ∧ nS k_ Ao37 t224.length co37) (Kd.R_keptB ((Kd.R_apart' HO235.out (Kd.R_typed HO_224001.out) (by decide))) hkp (fun k_ hk_ hs_ => Or.elim hs_ (fun e_ => (hk_.1.1.2) e_) (fun e_ => (hk_.2) e_))) (fun k_ hk_ => ⟨hk_.1.1.1.1.2, hk_.1.1.1.2, hk_.1.1.2⟩)); replace HO_224001 := Aside0.mk (Kd.R_reok rfl hy1 (fun k_ e_ => HO_224001.out.1 k_ e_)); replace HO238 := Aside0.mk (Kd.R_mono (ok' := fun k_ => nS k_ Ao26 t212.length co26 ∧ nS k_ Ao34 t220.length co34 ∧ nS k_ Ao42 t227.length co42) (Kd.R_keptB ((Kd.R_apart' HO238.out (Kd.R_typed HO_224000.out) (by decide))) hkp (fun k_ hk_ hs_ => Or.elim hs_ (fun e_ => (hk_.2) e_) (fun e_ => (hk_.1.1.2) e_))) (fun k_ hk_ => ⟨hk_.1.1.1.1.2, hk_.1.1.1.2, hk_.1.1.2⟩)); replace HO_224000 := Aside0.mk (Kd.R_reok rfl hy0 (fun k_ e_ => HO_224000.out.1 k_ e_)); replace HB := Aside0.mk (hb); (try clear hb); (try clear hkp); (try clear hy0); (try clear hy1)))
      (try simp only [Act.put, List.setIfInBounds_toArray, List.set_cons_zero, List.set_cons_succ])
      go_cut [69] (fun v69 wc => ∃ (kq : Nat) (x69_65 : Bool), v69 = .bool x69_65 ∧ Aside0 (laws_FnExactPassLock.j1 kq a1 a2 t215 x69_65 l0_0 l0_1 t209 t212 t224 t227 = some true) ∧ Aside0 (kq ≤ kj12) ∧ Aside0 (Kd.R (Kd.int .i64) 3 wc w.heap.size (fun k_ => nS k_ Ao30 t217.length co30 ∧ nS k_ Ao37 t224.length co37) (.slice Ao23 t209.length co23) t209) ∧ Aside0 (Kd.R Kd.bool 4 wc w.heap.size (fun k_ => nS k_ Ao34 t220.length co34 ∧ nS k_ Ao42 t227.length co42) (.slice Ao26 t212.length co26) t212) ∧ Aside0 (Kd.R (Kd.int .i64) 3 wc w.heap.size (fun k_ => nS k_ Ao23 t209.length co23 ∧ nS k_ Ao37 t224.length co37) (.slice Ao30 t217.length co30) t241) ∧ Aside0 (Kd.R Kd.bool 4 wc w.heap.size (fun k_ => nS k_ Ao26 t212.length co26 ∧ nS k_ Ao42 t227.length co42) (.slice Ao34 t220.length co34) t242) ∧ Aside0 (Kd.R (Kd.int .i64) 3 wc w.heap.size (fun k_ => nS k_ Ao23 t209.length co23 ∧ nS k_ Ao30 t217.length co30) (.slice Ao37 t224.length co37) t224) ∧ Aside0 (Kd.R Kd.bool 4 wc w.heap.size (fun k_ => nS k_ Ao26 t212.length co26 ∧ nS k_ Ao34 t220.length co34) (.slice Ao42 t227.length co42) t227) ∧ Aside0 (wc.heap[gb201]? = some (.cells #[(.slice A0_0 l0_0.length c0_0), (.slice A0_1 l0_1.length c0_1)] 25 (0, 0))) ∧ Aside0 (wc.heap[gb216]? = some (.cells #[(.slice Ao23 t209.length co23), (.slice Ao26 t212.length co26)] 29 (0, 0))) ∧ Aside0 (wc.heap[gb223]? = some (.cells #[(.slice Ao30 t217.length co30), (.slice Ao34 t220.length co34)] 29 (0, 0))) ∧ Aside0 (wc.heap[gb231]? = some (.cells #[(.slice Ao37 t224.length co37), (.slice Ao42 t227.length co42)] 29 (0, 0))) ∧ Aside0 (Below w.heap.size w wc))
      case first =>
       have H := HC66.out
       clear HC66
       by_cases c77 : t240 < 0
       ·rw [if_pos c77] at H
        have c77b0 : decide (t240 < 0) = true := decide_eq_true c77
        clear c77
        (first | rw [c77b0] | (simp only [i64_w, i32_w]; rw [c77b0]) | skip)
        have H' := Aside0.mk H
        clear H
        go_wp2
        go_meet
        case rel => exact ⟨_, (true), (by first | rfl | (simp; done) | (simp [*]; done)), H', ⟨by have := HJ12.out; first | omega | exact Nat.le_refl _⟩, ⟨xm HO_217000 (fun _ hk => ⟨hk.1, hk.2.1⟩)⟩, ⟨xm HO_217001 (fun _ hk => ⟨hk.1, hk.2.1⟩)⟩, ⟨xm HO_224000 (fun _ hk => ⟨hk.1.1, hk.1.2⟩)⟩, ⟨xm HO_224001 (fun _ hk => ⟨hk.1.1, hk.1.2⟩)⟩, ⟨xm HO_232000 (fun _ hk => ⟨hk.1, hk.2.1⟩)⟩, ⟨xm HO_232001 (fun _ hk => ⟨hk.1, hk.2.1⟩)⟩, ⟨xb BK201.out⟩, ⟨xb BK216.out⟩, ⟨xb BK223.out⟩, ⟨xb BK231.out⟩, ⟨xs HB.out⟩⟩
       ·rw [if_neg c77] at H
        have c77b0 : decide (t240 < 0) = false := decide_eq_false c77
        clear c77
        (first | rw [c77b0] | (simp only [i64_w, i32_w]; rw [c77b0]) | skip)
        replace H := Option.bind_eq_some_iff.mp H
        obtain ⟨t243, A780, H⟩ := H
        replace H : (if t243 = true then (laws_FnExactPassLock.j1 kj12 a1 a2 t215 (t230 != t215) l0_0 l0_1 t209 t212 t224 t227) else (laws_FnExactPassLock.j1 kj12 a1 a2 t215 true l0_0 l0_1 t209 t212 t224 t227)) = some true := H
        have A78 := Aside0.mk A780
        clear A780
        by_cases c79 : t243 = true
        ·subst c79
         have H1 : (laws_FnExactPassLock.j1 kj12 a1 a2 t215 (t230 != t215) l0_0 l0_1 t209 t212 t224 t227) = some true := by first | (rw [if_pos rfl] at H; exact H) | rfl
         clear H
         have H := H1
         clear H1
         have H' := Aside0.mk H
         clear H
         have hnb80 := NB231_201.out
         have hnc80 := NB201_231.out
         have hnb81 := NB231_216.out
         have hnc81 := NB216_231.out
         have hnb82 := NB231_223.out
         have hnc82 := NB223_231.out
         have hcz83_0 : w76.cell? ⟨gb231, 0, none⟩ = some (.slice Ao37 t224.length co37) := (blk_cell BK231.out 0).trans rfl
         have hcz83_1 : w76.cell? ⟨gb231, 1, none⟩ = some (.slice Ao42 t227.length co42) := (blk_cell BK231.out 1).trans rfl
         have hfz83_0 := blk_frozen BK231.out 0
         have hfz83_1 := blk_frozen BK231.out 1
         have hnb84 := NB216_201.out
         have hnc84 := NB201_216.out
         have hnb85 := NB216_223.out
         have hnc85 := NB223_216.out
         have hcz86_0 : w76.cell? ⟨gb216, 0, none⟩ = some (.slice Ao23 t209.length co23) := (blk_cell BK216.out 0).trans rfl
         have hcz86_1 : w76.cell? ⟨gb216, 1, none⟩ = some (.slice Ao26 t212.length co26) := (blk_cell BK216.out 1).trans rfl
         have hfz86_0 := blk_frozen BK216.out 0
         have hfz86_1 := blk_frozen BK216.out 1
         go_wp2_with (first | (go_at_call 14; (with_reducible refine (laws_eqFlight.calls kj12 _ _ t224 _ _ t227 _ _ t209 _ _ t212 true _ ?side1 ?side2 ?side3 ?side4 ?side5 ?side6 ?side7 ?side8 A78.out).mono ?_); (case side1 => exact xd ((Kd.R_reads' HO_232000.out).2.2)); (case side2 => exact (Kd.R_reads' HO_232000.out).2.1); (case side3 => exact xd ((Kd.R_reads' HO_232001.out).2.2)); (case side4 => exact (Kd.R_reads' HO_232001.out).2.1); (case side5 => exact xd ((Kd.R_reads' HO_217000.out).2.2)); (case side6 => exact (Kd.R_reads' HO_217000.out).2.1); (case side7 => exact xd ((Kd.R_reads' HO_217001.out).2.2)); (case side8 => exact (Kd.R_reads' HO_217001.out).2.1); rintro e w87 ⟨rfl, hb⟩; replace HO_217000 := xq HO_217000 hb; replace HO_217001 := xq HO_217001 hb; replace HO_224000 := xq HO_224000 hb; replace HO_224001 := xq HO_224001 hb; replace HO_232000 := xq HO_232000 hb; replace HO_232001 := xq HO_232001 hb; replace HO235 := xq HO235 hb; replace HO238 := xq HO238 hb; replace BK201 := xk BK201 hb; replace BK216 := xk BK216 hb; replace BK223 := xk BK223 hb; replace BK231 := xk BK231 hb; replace HB := xp HB hb; (try clear hb); (try clear hb2); (try clear hk); (try clear hi)))
         go_meet
         case rel => exact ⟨_, ((t230 != t215)), (by first | rfl | (simp; done) | (simp [*]; done)), H', ⟨by have := HJ12.out; first | omega | exact Nat.le_refl _⟩, ⟨xm HO_217000 (fun _ hk => ⟨hk.1, hk.2.1⟩)⟩, ⟨xm HO_217001 (fun _ hk => ⟨hk.1, hk.2.1⟩)⟩, ⟨xm HO_224000 (fun _ hk => ⟨hk.1.1, hk.1.2⟩)⟩, ⟨xm HO_224001 (fun _ hk => ⟨hk.1.1, hk.1.2⟩)⟩, ⟨xm HO_232000 (fun _ hk => ⟨hk.1, hk.2.1⟩)⟩, ⟨xm HO_232001 (fun _ hk => ⟨hk.1, hk.2.1⟩)⟩, ⟨xb BK201.out⟩, ⟨xb BK216.out⟩, ⟨xb BK223.out⟩, ⟨xb BK231.out⟩, ⟨xs HB.out⟩⟩
        ·replace c79 := Bool.eq_false_iff.mpr c79
         subst c79
         have H1 : (laws_FnExactPassLock.j1 kj12 a1 a2 t215 true l0_0 l0_1 t209 t212 t224 t227) = some true := by first | (rw [if_neg (show ¬ (false = true) by decide)] at H; exact H) | rfl
         clear H
         have H := H1
         clear H1
         have H' := Aside0.mk H
         clear H
         have hnb88 := NB231_201.out
         have hnc88 := NB201_231.out
         have hnb89 := NB231_216.out
         have hnc89 := NB216_231.out
         have hnb90 := NB231_223.out
         have hnc90 := NB223_231.out
         have hcz91_0 : w76.cell? ⟨gb231, 0, none⟩ = some (.slice Ao37 t224.length co37) := (blk_cell BK231.out 0).trans rfl
         have hcz91_1 : w76.cell? ⟨gb231, 1, none⟩ = some (.slice Ao42 t227.length co42) := (blk_cell BK231.out 1).trans rfl
         have hfz91_0 := blk_frozen BK231.out 0
         have hfz91_1 := blk_frozen BK231.out 1
         have hnb92 := NB216_201.out
         have hnc92 := NB201_216.out
         have hnb93 := NB216_223.out
         have hnc93 := NB223_216.out
         have hcz94_0 : w76.cell? ⟨gb216, 0, none⟩ = some (.slice Ao23 t209.length co23) := (blk_cell BK216.out 0).trans rfl
         have hcz94_1 : w76.cell? ⟨gb216, 1, none⟩ = some (.slice Ao26 t212.length co26) := (blk_cell BK216.out 1).trans rfl
         have hfz94_0 := blk_frozen BK216.out 0
         have hfz94_1 := blk_frozen BK216.out 1
         go_wp2_with (first | (go_at_call 14; (with_reducible refine (laws_eqFlight.calls kj12 _ _ t224 _ _ t227 _ _ t209 _ _ t212 false _ ?side1 ?side2 ?side3 ?side4 ?side5 ?side6 ?side7 ?side8 A78.out).mono ?_); (case side1 => exact xd ((Kd.R_reads' HO_232000.out).2.2)); (case side2 => exact (Kd.R_reads' HO_232000.out).2.1); (case side3 => exact xd ((Kd.R_reads' HO_232001.out).2.2)); (case side4 => exact (Kd.R_reads' HO_232001.out).2.1); (case side5 => exact xd ((Kd.R_reads' HO_217000.out).2.2)); (case side6 => exact (Kd.R_reads' HO_217000.out).2.1); (case side7 => exact xd ((Kd.R_reads' HO_217001.out).2.2)); (case side8 => exact (Kd.R_reads' HO_217001.out).2.1); rintro e w95 ⟨rfl, hb⟩; replace HO_217000 := xq HO_217000 hb; replace HO_217001 := xq HO_217001 hb; replace HO_224000 := xq HO_224000 hb; replace HO_224001 := xq HO_224001 hb; replace HO_232000 := xq HO_232000 hb; replace HO_232001 := xq HO_232001 hb; replace HO235 := xq HO235 hb; replace HO238 := xq HO238 hb; replace BK201 := xk BK201 hb; replace BK216 := xk BK216 hb; replace BK223 := xk BK223 hb; replace BK231 := xk BK231 hb; replace HB := xp HB hb; (try clear hb); (try clear hb2); (try clear hk); (try clear hi)))
         go_meet
         case rel => exact ⟨_, (true), (by first | rfl | (simp; done) | (simp [*]; done)), H', ⟨by have := HJ12.out; first | omega | exact Nat.le_refl _⟩, ⟨xm HO_217000 (fun _ hk => ⟨hk.1, hk.2.1⟩)⟩, ⟨xm HO_217001 (fun _ hk => ⟨hk.1, hk.2.1⟩)⟩, ⟨xm HO_224000 (fun _ hk => ⟨hk.1.1, hk.1.2⟩)⟩, ⟨xm HO_224001 (fun _ hk => ⟨hk.1.1, hk.1.2⟩)⟩, ⟨xm HO_232000 (fun _ hk => ⟨hk.1, hk.2.1⟩)⟩, ⟨xm HO_232001 (fun _ hk => ⟨hk.1, hk.2.1⟩)⟩, ⟨xb BK201.out⟩, ⟨xb BK216.out⟩, ⟨xb BK223.out⟩, ⟨xb BK231.out⟩, ⟨xs HB.out⟩⟩
      case rest =>
       clear HC66
       try clear c1
       try clear c2
       try clear p2
       try clear c3
       try clear c4
       try clear c5
       try clear c5b0
       try clear c6
       try clear c7
       try clear c8
       try clear c9
       try clear c10
       try clear c12
       try clear c14
       try clear c19
       try clear c24
       try clear c25
       try clear c26
       try clear c31
       try clear c32
       try clear c38
       try clear c39
       try clear c40
       try clear c44
       try clear c45
       try clear c46
       try clear c47
       try clear c49
       try clear c50
       try clear c53
       try clear c54
       try clear c55
       try clear c57
       try clear c58
       try clear c61
       try clear c64
       try clear c72
       try clear c73
       try clear c74
       try clear c77
       try clear c77b0
       try clear c79
       try clear c80
       try clear c81
       try clear c82
       try clear c84
       try clear c85
       try clear c88
       try clear c89
       try clear c90
       try clear c92
       try clear c93
       try clear hcz15_0
       try clear hcz15_1
       try clear hcz17_0
       try clear hcz17_1
       try clear hcz25_0
       try clear hcz25_1
       try clear hcz27_0
       try clear hcz27_1
       try clear hcz33_0
       try clear hcz33_1
       try clear hcz41_0
       try clear hcz41_1
       try clear hcz48_0
       try clear hcz48_1
       try clear hcz51_0
       try clear hcz51_1
       try clear hcz56_0
       try clear hcz56_1
       try clear hcz59_0
       try clear hcz59_1
       try clear hcz75_0
       try clear hcz75_1
       try clear hcz7_0
       try clear hcz7_1
       try clear hcz83_0
       try clear hcz83_1
       try clear hcz86_0
       try clear hcz86_1
       try clear hcz91_0
       try clear hcz91_1
       try clear hcz94_0
       try clear hcz94_1
       try clear hfz15_0
       try clear hfz15_1
       try clear hfz17_0
       try clear hfz17_1
       try clear hfz25_0
       try clear hfz25_1
       try clear hfz27_0
       try clear hfz27_1
       try clear hfz33_0
       try clear hfz33_1
       try clear hfz41_0
       try clear hfz41_1
       try clear hfz48_0
       try clear hfz48_1
       try clear hfz51_0
       try clear hfz51_1
       try clear hfz56_0
       try clear hfz56_1
       try clear hfz59_0
       try clear hfz59_1
       try clear hfz75_0
       try clear hfz75_1
       try clear hfz7_0
       try clear hfz7_1
       try clear hfz83_0
       try clear hfz83_1
       try clear hfz86_0
       try clear hfz86_1
       try clear hfz91_0
       try clear hfz91_1
       try clear hfz94_0
       try clear hfz94_1
       try clear p2
       obtain ⟨kq, x69_65, rfl, HA, HJ65, HO_217000, HO_217001, HO_224000, HO_224001, HO_232000, HO_232001, BK201, BK216, BK223, BK231, HB⟩ := hcut
       have hl224000_65 := (Kd.R_reads' HO_224000.out).1
       rw [hl224000_65] at HO_224000
       (try simp only [hl224000_65])
       (try simp only [hl224000_65] at BK201)
       (try simp only [hl224000_65] at BK216)
       (try simp only [hl224000_65] at BK223)
       (try simp only [hl224000_65] at BK231)
       (try simp only [hl224000_65] at HO_217000)
       (try simp only [hl224000_65] at HO_217001)
       (try simp only [hl224000_65] at HO_224001)
       (try simp only [hl224000_65] at HO_232000)
       (try simp only [hl224000_65] at HO_232001)
       have hl224001_65 := (Kd.R_reads' HO_224001.out).1
       rw [hl224001_65] at HO_224001
       (try simp only [hl224001_65])
       (try simp only [hl224001_65] at BK201)
       (try simp only [hl224001_65] at BK216)
       (try simp only [hl224001_65] at BK223)
       (try simp only [hl224001_65] at BK231)
       (try simp only [hl224001_65] at HO_217000)
       (try simp only [hl224001_65] at HO_217001)
       (try simp only [hl224001_65] at HO_224000)
       (try simp only [hl224001_65] at HO_232000)
       (try simp only [hl224001_65] at HO_232001)
       cases kq with
       | zero => exact absurd HA.out (by simp [laws_FnExactPassLock.j1])
       | succ kj65 =>
        have H := HA.out
        clear HA
        simp only [laws_FnExactPassLock.j1] at H
        by_cases c96 : x69_65 = true
        ·subst c96
         have H1 : (some false) = some true := by first | (rw [if_pos rfl] at H; exact H) | rfl
         clear H
         have H := H1
         clear H1
         exact absurd H (by simp)
        ·replace c96 := Bool.eq_false_iff.mpr c96
         subst c96
         have H1 : ((laws_markFlight.f kj65 t224 t227 1).bind fun bt244 => ((laws_heldFlight.f kj65 bt244.2.1 bt244.2.2 1).bind fun t247 => (if t247 < 0 then (some false) else (if t247 = bt244.1 then ((laws_toFlight.f kj65 l0_0 l0_1).bind fun bt248 => ((impl_PassLock.f bt248.1 bt248.2 a1 a2).bind fun bt254 => ((laws_eqFlight.f kj65 bt254.1 bt254.2.1 t209 t212).bind fun t262 => (if t262 = true then (laws_FnExactPassLock.j2 kj65 bt244.1 (bt254.2.2 != t215) bt244.2.1 bt244.2.2) else (laws_FnExactPassLock.j2 kj65 bt244.1 true bt244.2.1 bt244.2.2))))) else (some false))))) = some true := by first | (rw [if_neg (show ¬ (false = true) by decide)] at H; exact H) | rfl
         clear H
         have H := H1
         clear H1
         replace H := Option.bind_eq_some_iff.mp H
         obtain ⟨⟨t244, t245, t246⟩, A970, H⟩ := H
         replace H : ((laws_heldFlight.f kj65 t245 t246 1).bind fun t247 => (if t247 < 0 then (some false) else (if t247 = t244 then ((laws_toFlight.f kj65 l0_0 l0_1).bind fun bt248 => ((impl_PassLock.f bt248.1 bt248.2 a1 a2).bind fun bt254 => ((laws_eqFlight.f kj65 bt254.1 bt254.2.1 t209 t212).bind fun t262 => (if t262 = true then (laws_FnExactPassLock.j2 kj65 t244 (bt254.2.2 != t215) t245 t246) else (laws_FnExactPassLock.j2 kj65 t244 true t245 t246))))) else (some false)))) = some true := H
         have A97 := Aside0.mk A970
         clear A970
         replace H := Option.bind_eq_some_iff.mp H
         obtain ⟨t247, A980, H⟩ := H
         replace H : (if t247 < 0 then (some false) else (if t247 = t244 then ((laws_toFlight.f kj65 l0_0 l0_1).bind fun bt248 => ((impl_PassLock.f bt248.1 bt248.2 a1 a2).bind fun bt254 => ((laws_eqFlight.f kj65 bt254.1 bt254.2.1 t209 t212).bind fun t262 => (if t262 = true then (laws_FnExactPassLock.j2 kj65 t244 (bt254.2.2 != t215) t245 t246) else (laws_FnExactPassLock.j2 kj65 t244 true t245 t246))))) else (some false))) = some true := H
         have A98 := Aside0.mk A980
         clear A980
         by_cases c99 : t247 < 0
         ·rw [if_pos c99] at H
          have c99b0 : decide (t247 < 0) = true := decide_eq_true c99
          clear c99
          exact absurd H (by simp)
         ·rw [if_neg c99] at H
          have c99b0 : decide (t247 < 0) = false := decide_eq_false c99
          clear c99
          by_cases c100 : t247 = t244
          ·rw [if_pos c100] at H
           have c100b0 : (t247 == t244) = true := beq_iff_eq.mpr c100
           have c100b1 : (t247 != t244) = false := bne_eq_false_iff_eq.mpr c100
           clear c100
           replace H := Option.bind_eq_some_iff.mp H
           obtain ⟨⟨t248, t251⟩, A1010, H⟩ := H
           replace H : ((impl_PassLock.f t248 t251 a1 a2).bind fun bt254 => ((laws_eqFlight.f kj65 bt254.1 bt254.2.1 t209 t212).bind fun t262 => (if t262 = true then (laws_FnExactPassLock.j2 kj65 t244 (bt254.2.2 != t215) t245 t246) else (laws_FnExactPassLock.j2 kj65 t244 true t245 t246)))) = some true := H
           have A101 := Aside0.mk A1010
           clear A1010
           replace H := Option.bind_eq_some_iff.mp H
           obtain ⟨⟨t254, t257, t260⟩, A1020, H⟩ := H
           replace H : ((laws_eqFlight.f kj65 t254 t257 t209 t212).bind fun t262 => (if t262 = true then (laws_FnExactPassLock.j2 kj65 t244 (t260 != t215) t245 t246) else (laws_FnExactPassLock.j2 kj65 t244 true t245 t246))) = some true := H
           have A102 := Aside0.mk A1020
           clear A1020
           have HC103 := Aside0.mk H
           clear H
           have hnb104 := NB231_201.out
           have hnc104 := NB201_231.out
           have hnb105 := NB231_216.out
           have hnc105 := NB216_231.out
           have hnb106 := NB231_223.out
           have hnc106 := NB223_231.out
           have hcz107_0 : wc.cell? ⟨gb231, 0, none⟩ = some (.slice Ao37 t224.length co37) := (blk_cell BK231.out 0).trans rfl
           have hcz107_1 : wc.cell? ⟨gb231, 1, none⟩ = some (.slice Ao42 t227.length co42) := (blk_cell BK231.out 1).trans rfl
           have hfz107_0 := blk_frozen BK231.out 0
           have hfz107_1 := blk_frozen BK231.out 1
           go_upto_region 25 with (first | ((with_reducible refine gate_callee (f := 19) rfl ?_); refine goesL_ (some 72) rfl rfl Try.func19 (by kernel_rfl) rfl #[.agg #[.slice Ao37 t224.length co37, .slice Ao42 t227.length co42], .int .i64 1] rfl (by (try simp only [List.map_toArray, List.map_cons, List.map_nil]); first | done | rfl | (simp only [List.length_drop, List.length_take]; rfl)) ?_; (with_reducible refine (laws_markFlight.calls kj65 (fun k_ => some k_ = (.slice Ao37 t224.length co37 : Value).ownBlock) (.slice Ao37 t224.length co37) t224 (fun k_ => some k_ = (.slice Ao42 t227.length co42 : Value).ownBlock) (.slice Ao42 t227.length co42) t227 1 t244 t245 t246 w _ ?side1 ?side2 ?side3 A97.out).mono ?_); (case side1 => repeat (first | (with_reducible first | exact HB.out | apply below_alloc | apply pw_below_drewN | apply below_drew1 | refine below_set ?_ GE201.out | refine below_set ?_ GE216.out | refine below_set ?_ GE223.out | refine below_set ?_ GE231.out) | exact HB.out)); (case side2 => exact Kd.R_tight rfl HO_232000.out); (case side3 => exact Kd.R_tight rfl HO_232001.out); rintro e w108 ⟨rfl, hy0, hy1, hb, hkp⟩; refine ⟨_, rfl, ?_⟩; replace HO_217000 := Aside0.mk (Kd.R_mono (ok' := fun k_ => nS k_ Ao30 t241.length co30 ∧ nS k_ Ao37 t224.length co37) (Kd.R_keptB ((Kd.R_apart' HO_217000.out (Kd.R_typed HO_232001.out) (by decide))) hkp (fun k_ hk_ hs_ => Or.elim hs_ (fun e_ => (hk_.1.2) e_) (fun e_ => (hk_.2) e_))) (fun k_ hk_ => ⟨hk_.1.1.1, hk_.1.1.2⟩)); replace HO_217001 := Aside0.mk (Kd.R_mono (ok' := fun k_ => nS k_ Ao34 t242.length co34 ∧ nS k_ Ao42 t227.length co42) (Kd.R_keptB ((Kd.R_apart' HO_217001.out (Kd.R_typed HO_232000.out) (by decide))) hkp (fun k_ hk_ hs_ => Or.elim hs_ (fun e_ => (hk_.2) e_) (fun e_ => (hk_.1.2) e_))) (fun k_ hk_ => ⟨hk_.1.1.1, hk_.1.1.2⟩)); replace HO_224000 := Aside0.mk (Kd.R_mono (ok' := fun k_ => nS k_ Ao23 t209.length co23 ∧ nS k_ Ao37 t224.length co37) (Kd.R_keptB ((Kd.R_apart' HO_224000.out (Kd.R_typed HO_232001.out) (by decide))) hkp (fun k_ hk_ hs_ => Or.elim hs_ (fun e_ => (hk_.1.2) e_) (fun e_ => (hk_.2) e_))) (fun k_ hk_ => ⟨hk_.1.1.1, hk_.1.1.2⟩)); replace HO_224001 := Aside0.mk (Kd.R_mono (ok' := fun k_ => nS k_ Ao26 t212.length co26 ∧ nS k_ Ao42 t227.length co42) (Kd.R_keptB ((Kd.R_apart' HO_224001.out (Kd.R_typed HO_232000.out) (by decide))) hkp (fun k_ hk_ hs_ => Or.elim hs_ (fun e_ => (hk_.2) e_) (fun e_ => (hk_.1.2) e_))) (fun k_ hk_ => ⟨hk_.1.1.1, hk_.1.1.2⟩)); replace BK201 := Aside0.mk (blk_kept (xb BK201.out) hkp (fun hs_ => Or.elim hs_ (fun e_ => (fun e_ => (Kd.R_ne HO_232000.out BK201.out (by decide)) e_) e_) (fun e_ => (fun e_ => (Kd.R_ne HO_232001.out BK201.out (by decide)) e_) e_))); replace BK216 := Aside0.mk (blk_kept (xb BK216.out) hkp (fun hs_ => Or.elim hs_ (fun e_ => (fun e_ => (Kd.R_ne HO_232000.out BK216.out (by decide)) e_) e_) (fun e_ => (fun e_ => (Kd.R_ne HO_232001.out BK216.out (by decide)) e_) e_))); replace BK223 := Aside0.mk (blk_kept (xb BK223.out) hkp (fun hs_ => Or.elim hs_ (fun e_ => (fun e_ => (Kd.R_ne HO_232000.out BK223.out (by decide)) e_) e_) (fun e_ => (fun e_ => (Kd.R_ne HO_232001.out BK223.out (by decide)) e_) e_))); replace BK231 := Aside0.mk (blk_kept (xb BK231.out) hkp (fun hs_ => Or.elim hs_ (fun e_ => (fun e_ => (Kd.R_ne HO_232000.out BK231.out (by decide)) e_) e_) (fun e_ => (fun e_ => (Kd.R_ne HO_232001.out BK231.out (by decide)) e_) e_))); replace HO_232000 := Aside0.mk (Kd.R_reok rfl hy0 (fun k_ e_ => HO_232000.out.1 k_ e_)); replace HO_232001 := Aside0.mk (Kd.R_reok rfl hy1 (fun k_ e_ => HO_232001.out.1 k_ e_)); replace HB := Aside0.mk (hb); (try clear hb); (try clear hkp); (try clear hy0); (try clear hy1); have hcz109_0 : w108.cell? ⟨gb231, 0, none⟩ = some (.slice Ao37 t224.length co37) := (blk_cell BK231.out 0).trans rfl; have hcz109_1 : w108.cell? ⟨gb231, 1, none⟩ = some (.slice Ao42 t227.length co42) := (blk_cell BK231.out 1).trans rfl; have hfz109_0 := blk_frozen BK231.out 0; have hfz109_1 := blk_frozen BK231.out 1) | ((with_reducible refine gate_callee (f := 20) rfl ?_); refine goesL_ (some 75) rfl rfl Try.func20 (by kernel_rfl) rfl #[.agg #[.slice Ao37 t245.length co37, .slice Ao42 t246.length co42], .int .i64 1] rfl (by (try simp only [List.map_toArray, List.map_cons, List.map_nil]); first | done | (rw [show t245.length = t224.length from (Kd.R_reads' HO_232000.out).1.symm, show t246.length = t227.length from (Kd.R_reads' HO_232001.out).1.symm] <;> rfl) | rfl | (simp only [List.length_drop, List.length_take]; rfl)) ?_; (with_reducible refine (laws_heldFlight.calls kj65 _ _ t245 _ _ t246 1 t247 _ ?side1 ?side2 ?side3 ?side4 A98.out).mono ?_); (case side1 => exact xd ((Kd.R_reads' HO_232000.out).2.2)); (case side2 => rw [show t245.length = t224.length from (Kd.R_reads' HO_232000.out).1.symm]; exact (Kd.R_reads' HO_232000.out).2.1); (case side3 => exact xd ((Kd.R_reads' HO_232001.out).2.2)); (case side4 => rw [show t246.length = t227.length from (Kd.R_reads' HO_232001.out).1.symm]; exact (Kd.R_reads' HO_232001.out).2.1); rintro e w110 ⟨rfl, hb⟩; refine ⟨_, rfl, ?_⟩; replace HO_217000 := xq HO_217000 hb; replace HO_217001 := xq HO_217001 hb; replace HO_224000 := xq HO_224000 hb; replace HO_224001 := xq HO_224001 hb; replace HO_232000 := xq HO_232000 hb; replace HO_232001 := xq HO_232001 hb; replace BK201 := xk BK201 hb; replace BK216 := xk BK216 hb; replace BK223 := xk BK223 hb; replace BK231 := xk BK231 hb; replace HB := xp HB hb; (try clear hb); (try clear hb2); (try clear hk); (try clear hi); have hnb111 := NB201_216.out; have hnc111 := NB216_201.out; have hnb112 := NB201_223.out; have hnc112 := NB223_201.out; have hcz113_0 : w110.cell? ⟨gb201, 0, none⟩ = some (.slice A0_0 l0_0.length c0_0) := (blk_cell BK201.out 0).trans rfl; have hcz113_1 : w110.cell? ⟨gb201, 1, none⟩ = some (.slice A0_1 l0_1.length c0_1) := (blk_cell BK201.out 1).trans rfl; have hfz113_0 := blk_frozen BK201.out 0; have hfz113_1 := blk_frozen BK201.out 1) | ((with_reducible refine gate_callee (f := 12) rfl ?_); refine goesL_ (some 83) rfl rfl Try.func12 (by kernel_rfl) rfl #[.agg #[.slice A0_0 l0_0.length c0_0, .slice A0_1 l0_1.length c0_1]] rfl (by (try simp only [List.map_toArray, List.map_cons, List.map_nil]); first | done | rfl | (simp only [List.length_drop, List.length_take]; rfl)) ?_; (with_reducible refine (laws_toFlight.calls kj65 _ _ l0_0 _ _ l0_1 t248 t251 _ ?side1 ?side2 ?side3 ?side4 A101.out).mono ?_); (case side1 => exact xd ((Kd.C_below HR0_0.out HB.out))); (case side2 => exact HC0_0.out); (case side3 => exact xd ((Kd.C_below HR0_1.out HB.out))); (case side4 => exact HC0_1.out); rintro e w114 ⟨v249, v252, rfl, ho0, ho1, hb⟩; refine ⟨_, rfl, ?_⟩; have HO250 := Aside0.mk (Kd.R_lower (Kd.R_new' (Kd.R_new' (Kd.R_new' ho0 (Kd.R_lt (xr HO_217000.out))) (Kd.R_lt (xr HO_224000.out))) (Kd.R_lt (xr HO_232000.out))) (below_size (xs HB.out))); replace HO_217000 := Aside0.mk (Kd.R_elder' (xr HO_217000.out) (Kd.R_base ho0) hb); replace HO_224000 := Aside0.mk (Kd.R_elder' (xr HO_224000.out) (Kd.R_base ho0) hb); replace HO_232000 := Aside0.mk (Kd.R_elder' (xr HO_232000.out) (Kd.R_base ho0) hb); have HO253 := Aside0.mk (Kd.R_lower (Kd.R_new' (Kd.R_new' (Kd.R_new' ho1 (Kd.R_lt (xr HO_217001.out))) (Kd.R_lt (xr HO_224001.out))) (Kd.R_lt (xr HO_232001.out))) (below_size (xs HB.out))); replace HO_217001 := Aside0.mk (Kd.R_elder' (xr HO_217001.out) (Kd.R_base ho1) hb); replace HO_224001 := Aside0.mk (Kd.R_elder' (xr HO_224001.out) (Kd.R_base ho1) hb); replace HO_232001 := Aside0.mk (Kd.R_elder' (xr HO_232001.out) (Kd.R_base ho1) hb); replace BK201 := xk BK201 hb; replace BK216 := xk BK216 hb; replace BK223 := xk BK223 hb; replace BK231 := xk BK231 hb; replace HB := xp HB hb; (try clear hb); (try clear hb2); (try clear hk); (try clear hi); (try clear ho0); (try clear ho1); obtain ⟨Ao115, co115, eo115⟩ := Kd.R_slice HO250.out; subst eo115; obtain ⟨Ao116, co116, eo116⟩ := Kd.R_slice HO253.out; subst eo116) | ((with_reducible refine gate_callee (f := 26) rfl ?_); refine goesL_ (some 86) rfl rfl Try.func26 (by kernel_rfl) rfl #[.agg #[.slice Ao115 t248.length co115, .slice Ao116 t251.length co116], .int .i64 a1, .bool a2] rfl (by (try simp only [List.map_toArray, List.map_cons, List.map_nil]); first | done | rfl | (simp only [List.length_drop, List.length_take]; rfl)) ?_; (with_reducible refine (impl_PassLock.calls _ _ t248 _ _ t251 a1 a2 t254 t257 t260 _ ?side1 ?side2 ?side3 ?side4 A102.out).mono ?_); (case side1 => exact xd ((Kd.R_reads' HO250.out).2.2)); (case side2 => exact (Kd.R_reads' HO250.out).2.1); (case side3 => exact xd ((Kd.R_reads' HO253.out).2.2)); (case side4 => exact (Kd.R_reads' HO253.out).2.1); rintro e w117 ⟨v255, v258, rfl, ho0, ho1, hb⟩; refine ⟨_, rfl, ?_⟩; have HO256 := Aside0.mk (Kd.R_lower (Kd.R_new' (Kd.R_new' (Kd.R_new' (Kd.R_new' ho0 (Kd.R_lt (xr HO_217000.out))) (Kd.R_lt (xr HO_224000.out))) (Kd.R_lt (xr HO_232000.out))) (Kd.R_lt (xr HO250.out))) (below_size (xs HB.out))); replace HO_217000 := Aside0.mk (Kd.R_elder' (xr HO_217000.out) (Kd.R_base ho0) hb); replace HO_224000 := Aside0.mk (Kd.R_elder' (xr HO_224000.out) (Kd.R_base ho0) hb); replace HO_232000 := Aside0.mk (Kd.R_elder' (xr HO_232000.out) (Kd.R_base ho0) hb); replace HO250 := Aside0.mk (Kd.R_elder' (xr HO250.out) (Kd.R_base ho0) hb); have HO259 := Aside0.mk (Kd.R_lower (Kd.R_new' (Kd.R_new' (Kd.R_new' (Kd.R_new' ho1 (Kd.R_lt (xr HO_217001.out))) (Kd.R_lt (xr HO_224001.out))) (Kd.R_lt (xr HO_232001.out))) (Kd.R_lt (xr HO253.out))) (below_size (xs HB.out))); replace HO_217001 := Aside0.mk (Kd.R_elder' (xr HO_217001.out) (Kd.R_base ho1) hb); replace HO_224001 := Aside0.mk (Kd.R_elder' (xr HO_224001.out) (Kd.R_base ho1) hb); replace HO_232001 := Aside0.mk (Kd.R_elder' (xr HO_232001.out) (Kd.R_base ho1) hb); replace HO253 := Aside0.mk (Kd.R_elder' (xr HO253.out) (Kd.R_base ho1) hb); replace BK201 := xk BK201 hb; replace BK216 := xk BK216 hb; replace BK223 := xk BK223 hb; replace BK231 := xk BK231 hb; replace HB := xp HB hb; (try clear hb); (try clear hb2); (try clear hk); (try clear hi); (try clear ho0); (try clear ho1)) | ((with_reducible refine gate_dst (N := 16) rfl ?_); refine box_event ?hg (N := 16) ?hd (cs := #[.slice none 0 0, .slice none 0 0]) (t := 29) ?hr ?_; (case hd => rfl); (case hg => rfl); (case hr => first | (go_simp; done) | (go_simp; rfl)); intro gb261 hg w118 hbox hb; replace HO_217000 := xq HO_217000 hb; replace HO_217001 := xq HO_217001 hb; replace HO_224000 := xq HO_224000 hb; replace HO_224001 := xq HO_224001 hb; replace HO_232000 := xq HO_232000 hb; replace HO_232001 := xq HO_232001 hb; replace HO250 := xq HO250 hb; replace HO253 := xq HO253 hb; replace HO256 := xq HO256 hb; replace HO259 := xq HO259 hb; have BK261 := Aside0.mk (hbox); have GW261 := xg HB hg; have GE261 := xg HB hg; replace HB := xp HB hb; have NB201_261 := xl BK201 hg; have NB261_201 := xh BK201 hg; replace BK201 := xk BK201 hb; have NB216_261 := xl BK216 hg; have NB261_216 := xh BK216 hg; replace BK216 := xk BK216 hb; have NB223_261 := xl BK223 hg; have NB261_223 := xh BK223 hg; replace BK223 := xk BK223 hb; have NB231_261 := xl BK231 hg; have NB261_231 := xh BK231 hg; replace BK231 := xk BK231 hb; clear hb hbox hg; obtain ⟨Ao119, co119, eo119⟩ := Kd.R_slice HO256.out; subst eo119; have hnb120 := NB261_201.out; have hnc120 := NB201_261.out; have hnb121 := NB261_216.out; have hnc121 := NB216_261.out; have hnb122 := NB261_223.out; have hnc122 := NB223_261.out; have hnb123 := NB261_231.out; have hnc123 := NB231_261.out; have hcz124_0 : w118.cell? ⟨gb261, 0, none⟩ = some (.slice none 0 0) := (blk_cell BK261.out 0).trans rfl; have hcz124_1 : w118.cell? ⟨gb261, 1, none⟩ = some (.slice none 0 0) := (blk_cell BK261.out 1).trans rfl; have hfz124_0 := blk_frozen BK261.out 0; have hfz124_1 := blk_frozen BK261.out 1; obtain ⟨Ao125, co125, eo125⟩ := Kd.R_slice HO259.out; subst eo125))
           (try simp only [Act.put, List.setIfInBounds_toArray, List.set_cons_zero, List.set_cons_succ])
           go_cut [97] (fun v97 wc => ∃ (kq : Nat) (x97_102 : Bool), v97 = .bool x97_102 ∧ Aside0 (laws_FnExactPassLock.j2 kq t244 x97_102 t245 t246 = some true) ∧ Aside0 (kq ≤ kj65) ∧ Aside0 (Kd.R (Kd.int .i64) 3 wc w.heap.size (fun k_ => nS k_ Ao30 t241.length co30 ∧ nS k_ Ao37 t224.length co37 ∧ nS k_ Ao119 t254.length co119) (.slice Ao23 t209.length co23) t209) ∧ Aside0 (Kd.R Kd.bool 4 wc w.heap.size (fun k_ => nS k_ Ao34 t242.length co34 ∧ nS k_ Ao42 t227.length co42 ∧ nS k_ Ao125 t257.length co125) (.slice Ao26 t212.length co26) t212) ∧ Aside0 (Kd.R (Kd.int .i64) 3 wc w.heap.size (fun k_ => nS k_ Ao23 t209.length co23 ∧ nS k_ Ao37 t224.length co37 ∧ nS k_ Ao119 t254.length co119) (.slice Ao30 t241.length co30) t241) ∧ Aside0 (Kd.R Kd.bool 4 wc w.heap.size (fun k_ => nS k_ Ao26 t212.length co26 ∧ nS k_ Ao42 t227.length co42 ∧ nS k_ Ao125 t257.length co125) (.slice Ao34 t242.length co34) t242) ∧ Aside0 (Kd.R (Kd.int .i64) 3 wc w.heap.size (fun k_ => nS k_ Ao23 t209.length co23 ∧ nS k_ Ao30 t241.length co30 ∧ nS k_ Ao119 t254.length co119) (.slice Ao37 t224.length co37) t245) ∧ Aside0 (Kd.R Kd.bool 4 wc w.heap.size (fun k_ => nS k_ Ao26 t212.length co26 ∧ nS k_ Ao34 t242.length co34 ∧ nS k_ Ao125 t257.length co125) (.slice Ao42 t227.length co42) t246) ∧ Aside0 (Kd.R (Kd.int .i64) 3 wc w.heap.size (fun k_ => nS k_ Ao23 t209.length co23 ∧ nS k_ Ao30 t241.length co30 ∧ nS k_ Ao37 t224.length co37) (.slice Ao119 t254.length co119) t254) ∧ Aside0 (Kd.R Kd.bool 4 wc w.heap.size (fun k_ => nS k_ Ao26 t212.length co26 ∧ nS k_ Ao34 t242.length co34 ∧ nS k_ Ao42 t227.length co42) (.slice Ao125 t257.length co125) t257) ∧ Aside0 (wc.heap[gb201]? = some (.cells #[(.slice A0_0 l0_0.length c0_0), (.slice A0_1 l0_1.length c0_1)] 25 (0, 0))) ∧ Aside0 (wc.heap[gb216]? = some (.cells #[(.slice Ao23 t209.length co23), (.slice Ao26 t212.length co26)] 29 (0, 0))) ∧ Aside0 (wc.heap[gb223]? = some (.cells #[(.slice Ao30 t241.length co30), (.slice Ao34 t242.length co34)] 29 (0, 0))) ∧ Aside0 (wc.heap[gb231]? = some (.cells #[(.slice Ao37 t224.length co37), (.slice Ao42 t227.length co42)] 29 (0, 0))) ∧ Aside0 (wc.heap[gb261]? = some (.cells #[(.slice Ao119 t254.length co119), (.slice Ao125 t257.length co125)] 29 (0, 0))) ∧ Aside0 (Below w.heap.size w wc))
           case first =>
            have H := HC103.out
            clear HC103
            replace H := Option.bind_eq_some_iff.mp H
            obtain ⟨t262, A1260, H⟩ := H
            replace H : (if t262 = true then (laws_FnExactPassLock.j2 kj65 t244 (t260 != t215) t245 t246) else (laws_FnExactPassLock.j2 kj65 t244 true t245 t246)) = some true := H
            have A126 := Aside0.mk A1260
            clear A1260
            by_cases c127 : t262 = true
            ·subst c127
             have H1 : (laws_FnExactPassLock.j2 kj65 t244 (t260 != t215) t245 t246) = some true := by first | (rw [if_pos rfl] at H; exact H) | rfl
             clear H
             have H := H1
             clear H1
             have H' := Aside0.mk H
             clear H
             have hnb128 := NB261_201.out
             have hnc128 := NB201_261.out
             have hnb129 := NB261_216.out
             have hnc129 := NB216_261.out
             have hnb130 := NB261_223.out
             have hnc130 := NB223_261.out
             have hnb131 := NB261_231.out
             have hnc131 := NB231_261.out
             have hcz132_0 : w118.cell? ⟨gb261, 0, none⟩ = some (.slice none 0 0) := (blk_cell BK261.out 0).trans rfl
             have hcz132_1 : w118.cell? ⟨gb261, 1, none⟩ = some (.slice none 0 0) := (blk_cell BK261.out 1).trans rfl
             have hfz132_0 := blk_frozen BK261.out 0
             have hfz132_1 := blk_frozen BK261.out 1
             have hnb133 := NB216_201.out
             have hnc133 := NB201_216.out
             have hnb134 := NB216_223.out
             have hnc134 := NB223_216.out
             have hnb135 := NB216_231.out
             have hnc135 := NB231_216.out
             have hcz136_0 : w118.cell? ⟨gb216, 0, none⟩ = some (.slice Ao23 t209.length co23) := (blk_cell BK216.out 0).trans rfl
             have hcz136_1 : w118.cell? ⟨gb216, 1, none⟩ = some (.slice Ao26 t212.length co26) := (blk_cell BK216.out 1).trans rfl
             have hfz136_0 := blk_frozen BK216.out 0
             have hfz136_1 := blk_frozen BK216.out 1
             go_wp2_with (first | ((with_reducible refine gate_callee (f := 14) rfl ?_); refine goesL_ (some 91) rfl rfl Try.func14 (by kernel_rfl) rfl #[.agg #[.slice Ao119 t254.length co119, .slice Ao125 t257.length co125], .agg #[.slice Ao23 t209.length co23, .slice Ao26 t212.length co26]] rfl (by (try simp only [List.map_toArray, List.map_cons, List.map_nil]); first | done | rfl | (simp only [List.length_drop, List.length_take]; rfl)) ?_; (with_reducible refine (laws_eqFlight.calls kj65 _ _ t254 _ _ t257 _ _ t209 _ _ t212 true _ ?side1 ?side2 ?side3 ?side4 ?side5 ?side6 ?side7 ?side8 A126.out).mono ?_); (case side1 => refine (Kd.R_reads' (e := 3) (base := w.heap.size) (ok := fun k_ => ((((True ∧ nS k_ Ao23 t209.length co23) ∧ nS k_ Ao30 t241.length co30) ∧ nS k_ Ao37 t224.length co37) ∧ nS k_ Ao115 t248.length co115)) (n := t254.length) (c := co119) ?_).2.2; exact (by (with_reducible repeat (first | apply Kd.R_alloc | apply Kd.R_drewN | apply Kd.R_drew)); exact (Kd.R_mono (Kd.R_far (p := ⟨gb261, 1, none⟩) (Kd.R_far (p := ⟨gb261, 0, none⟩) (Kd.R_types HO256.out BK261.out (by decide)) (fun _ hk => hk.2) (.slice Ao119 t254.length co119)) (fun _ hk => hk.2) (.slice Ao125 t257.length co125)) (fun _ h_ => h_.1)))); (case side2 => exact (Kd.R_reads' HO256.out).2.1); (case side3 => refine (Kd.R_reads' (e := 4) (base := w.heap.size) (ok := fun k_ => ((((True ∧ nS k_ Ao26 t212.length co26) ∧ nS k_ Ao34 t242.length co34) ∧ nS k_ Ao42 t227.length co42) ∧ nS k_ Ao116 t251.length co116)) (n := t257.length) (c := co125) ?_).2.2; exact (by (with_reducible repeat (first | apply Kd.R_alloc | apply Kd.R_drewN | apply Kd.R_drew)); exact (Kd.R_mono (Kd.R_far (p := ⟨gb261, 1, none⟩) (Kd.R_far (p := ⟨gb261, 0, none⟩) (Kd.R_types HO259.out BK261.out (by decide)) (fun _ hk => hk.2) (.slice Ao119 t254.length co119)) (fun _ hk => hk.2) (.slice Ao125 t257.length co125)) (fun _ h_ => h_.1)))); (case side4 => exact (Kd.R_reads' HO259.out).2.1); (case side5 => refine (Kd.R_reads' (e := 3) (base := w.heap.size) (ok := fun k_ => (((nS k_ Ao30 t241.length co30 ∧ nS k_ Ao37 t224.length co37) ∧ nS k_ Ao115 t248.length co115) ∧ nS k_ Ao119 t254.length co119)) (n := t209.length) (c := co23) ?_).2.2; exact (by (with_reducible repeat (first | apply Kd.R_alloc | apply Kd.R_drewN | apply Kd.R_drew)); exact (Kd.R_mono (Kd.R_far (p := ⟨gb261, 1, none⟩) (Kd.R_far (p := ⟨gb261, 0, none⟩) (Kd.R_types HO_217000.out BK261.out (by decide)) (fun _ hk => hk.2) (.slice Ao119 t254.length co119)) (fun _ hk => hk.2) (.slice Ao125 t257.length co125)) (fun _ h_ => h_.1)))); (case side6 => exact (Kd.R_reads' HO_217000.out).2.1); (case side7 => refine (Kd.R_reads' (e := 4) (base := w.heap.size) (ok := fun k_ => (((nS k_ Ao34 t242.length co34 ∧ nS k_ Ao42 t227.length co42) ∧ nS k_ Ao116 t251.length co116) ∧ nS k_ Ao125 t257.length co125)) (n := t212.length) (c := co26) ?_).2.2; exact (by (with_reducible repeat (first | apply Kd.R_alloc | apply Kd.R_drewN | apply Kd.R_drew)); exact (Kd.R_mono (Kd.R_far (p := ⟨gb261, 1, none⟩) (Kd.R_far (p := ⟨gb261, 0, none⟩) (Kd.R_types HO_217001.out BK261.out (by decide)) (fun _ hk => hk.2) (.slice Ao119 t254.length co119)) (fun _ hk => hk.2) (.slice Ao125 t257.length co125)) (fun _ h_ => h_.1)))); (case side8 => exact (Kd.R_reads' HO_217001.out).2.1); rintro e w137 ⟨rfl, hb⟩; refine ⟨_, rfl, ?_⟩; replace HO_217000 := Aside0.mk (Kd.R_below (by (with_reducible repeat (first | apply Kd.R_alloc | apply Kd.R_drewN | apply Kd.R_drew)); exact (Kd.R_mono (Kd.R_far (p := ⟨gb261, 1, none⟩) (Kd.R_far (p := ⟨gb261, 0, none⟩) (Kd.R_types HO_217000.out BK261.out (by decide)) (fun _ hk => hk.2) (.slice Ao119 t254.length co119)) (fun _ hk => hk.2) (.slice Ao125 t257.length co125)) (fun _ h_ => h_.1))) hb); replace HO_217001 := Aside0.mk (Kd.R_below (by (with_reducible repeat (first | apply Kd.R_alloc | apply Kd.R_drewN | apply Kd.R_drew)); exact (Kd.R_mono (Kd.R_far (p := ⟨gb261, 1, none⟩) (Kd.R_far (p := ⟨gb261, 0, none⟩) (Kd.R_types HO_217001.out BK261.out (by decide)) (fun _ hk => hk.2) (.slice Ao119 t254.length co119)) (fun _ hk => hk.2) (.slice Ao125 t257.length co125)) (fun _ h_ => h_.1))) hb); replace HO_224000 := Aside0.mk (Kd.R_below (by (with_reducible repeat (first | apply Kd.R_alloc | apply Kd.R_drewN | apply Kd.R_drew)); exact (Kd.R_mono (Kd.R_far (p := ⟨gb261, 1, none⟩) (Kd.R_far (p := ⟨gb261, 0, none⟩) (Kd.R_types HO_224000.out BK261.out (by decide)) (fun _ hk => hk.2) (.slice Ao119 t254.length co119)) (fun _ hk => hk.2) (.slice Ao125 t257.length co125)) (fun _ h_ => h_.1))) hb); replace HO_224001 := Aside0.mk (Kd.R_below (by (with_reducible repeat (first | apply Kd.R_alloc | apply Kd.R_drewN | apply Kd.R_drew)); exact (Kd.R_mono (Kd.R_far (p := ⟨gb261, 1, none⟩) (Kd.R_far (p := ⟨gb261, 0, none⟩) (Kd.R_types HO_224001.out BK261.out (by decide)) (fun _ hk => hk.2) (.slice Ao119 t254.length co119)) (fun _ hk => hk.2) (.slice Ao125 t257.length co125)) (fun _ h_ => h_.1))) hb); replace HO_232000 := Aside0.mk (Kd.R_below (by (with_reducible repeat (first | apply Kd.R_alloc | apply Kd.R_drewN | apply Kd.R_drew)); exact (Kd.R_mono (Kd.R_far (p := ⟨gb261, 1, none⟩) (Kd.R_far (p := ⟨gb261, 0, none⟩) (Kd.R_types HO_232000.out BK261.out (by decide)) (fun _ hk => hk.2) (.slice Ao119 t254.length co119)) (fun _ hk => hk.2) (.slice Ao125 t257.length co125)) (fun _ h_ => h_.1))) hb); replace HO_232001 := Aside0.mk (Kd.R_below (by (with_reducible repeat (first | apply Kd.R_alloc | apply Kd.R_drewN | apply Kd.R_drew)); exact (Kd.R_mono (Kd.R_far (p := ⟨gb261, 1, none⟩) (Kd.R_far (p := ⟨gb261, 0, none⟩) (Kd.R_types HO_232001.out BK261.out (by decide)) (fun _ hk => hk.2) (.slice Ao119 t254.length co119)) (fun _ hk => hk.2) (.slice Ao125 t257.length co125)) (fun _ h_ => h_.1))) hb); replace HO250 := Aside0.mk (Kd.R_below (by (with_reducible repeat (first | apply Kd.R_alloc | apply Kd.R_drewN | apply Kd.R_drew)); exact (Kd.R_mono (Kd.R_far (p := ⟨gb261, 1, none⟩) (Kd.R_far (p := ⟨gb261, 0, none⟩) (Kd.R_types HO250.out BK261.out (by decide)) (fun _ hk => hk.2) (.slice Ao119 t254.length co119)) (fun _ hk => hk.2) (.slice Ao125 t257.length co125)) (fun _ h_ => h_.1))) hb); replace HO253 := Aside0.mk (Kd.R_below (by (with_reducible repeat (first | apply Kd.R_alloc | apply Kd.R_drewN | apply Kd.R_drew)); exact (Kd.R_mono (Kd.R_far (p := ⟨gb261, 1, none⟩) (Kd.R_far (p := ⟨gb261, 0, none⟩) (Kd.R_types HO253.out BK261.out (by decide)) (fun _ hk => hk.2) (.slice Ao119 t254.length co119)) (fun _ hk => hk.2) (.slice Ao125 t257.length co125)) (fun _ h_ => h_.1))) hb); replace HO256 := Aside0.mk (Kd.R_below (by (with_reducible repeat (first | apply Kd.R_alloc | apply Kd.R_drewN | apply Kd.R_drew)); exact (Kd.R_mono (Kd.R_far (p := ⟨gb261, 1, none⟩) (Kd.R_far (p := ⟨gb261, 0, none⟩) (Kd.R_types HO256.out BK261.out (by decide)) (fun _ hk => hk.2) (.slice Ao119 t254.length co119)) (fun _ hk => hk.2) (.slice Ao125 t257.length co125)) (fun _ h_ => h_.1))) hb); replace HO259 := Aside0.mk (Kd.R_below (by (with_reducible repeat (first | apply Kd.R_alloc | apply Kd.R_drewN | apply Kd.R_drew)); exact (Kd.R_mono (Kd.R_far (p := ⟨gb261, 1, none⟩) (Kd.R_far (p := ⟨gb261, 0, none⟩) (Kd.R_types HO259.out BK261.out (by decide)) (fun _ hk => hk.2) (.slice Ao119 t254.length co119)) (fun _ hk => hk.2) (.slice Ao125 t257.length co125)) (fun _ h_ => h_.1))) hb); replace BK201 := Aside0.mk (blk_below (g := gb201) (o := .cells #[.slice A0_0 l0_0.length c0_0, .slice A0_1 l0_1.length c0_1] 25 (0, 0)) (xff NB201_261.out NB201_261.out BK201.out) hb); replace BK216 := Aside0.mk (blk_below (g := gb216) (o := .cells #[.slice Ao23 t209.length co23, .slice Ao26 t212.length co26] 29 (0, 0)) (xff NB216_261.out NB216_261.out BK216.out) hb); replace BK223 := Aside0.mk (blk_below (g := gb223) (o := .cells #[.slice Ao30 t241.length co30, .slice Ao34 t242.length co34] 29 (0, 0)) (xff NB223_261.out NB223_261.out BK223.out) hb); replace BK231 := Aside0.mk (blk_below (g := gb231) (o := .cells #[.slice Ao37 t224.length co37, .slice Ao42 t227.length co42] 29 (0, 0)) (xff NB231_261.out NB231_261.out BK231.out) hb); replace BK261 := Aside0.mk (blk_below (g := gb261) (o := .cells #[.slice Ao119 t254.length co119, .slice Ao125 t257.length co125] 29 (0, 0)) (by (with_reducible repeat (first | refine blk_drewN ?_ _ | refine blk_drew ?_ | refine blk_alloc ?_ _)); refine blk_put (cs := #[.slice Ao119 t254.length co119, .slice none 0 0]) ?_ 1 _ rfl; (with_reducible repeat (first | refine blk_drewN ?_ _ | refine blk_drew ?_ | refine blk_alloc ?_ _)); refine blk_put (cs := #[.slice none 0 0, .slice none 0 0]) ?_ 0 _ rfl; (with_reducible repeat (first | refine blk_drewN ?_ _ | refine blk_drew ?_ | refine blk_alloc ?_ _)); exact BK261.out) hb); replace HB := xp HB hb; (try clear hb); (try clear hb2); (try clear hk); (try clear hi)))
             go_meet
             case rel => exact ⟨_, ((t260 != t215)), (by first | rfl | (simp; done) | (simp [*]; done)), H', ⟨by have := HJ12.out; have := HJ65.out; first | omega | exact Nat.le_refl _⟩, ⟨by (try simp only [hl224000_65]); (try simp only [hl224001_65]); (with_reducible repeat (first | apply Kd.R_alloc | apply Kd.R_drewN | apply Kd.R_drew)); exact Kd.R_mono HO_217000.out (fun _ hk => ⟨hk.1.1.1, ⟨hk.1.1.2, hk.2⟩⟩)⟩, ⟨by (try simp only [hl224000_65]); (try simp only [hl224001_65]); (with_reducible repeat (first | apply Kd.R_alloc | apply Kd.R_drewN | apply Kd.R_drew)); exact Kd.R_mono HO_217001.out (fun _ hk => ⟨hk.1.1.1, ⟨hk.1.1.2, hk.2⟩⟩)⟩, ⟨by (try simp only [hl224000_65]); (try simp only [hl224001_65]); (with_reducible repeat (first | apply Kd.R_alloc | apply Kd.R_drewN | apply Kd.R_drew)); exact Kd.R_mono HO_224000.out (fun _ hk => ⟨hk.1.1.1, ⟨hk.1.1.2, hk.2⟩⟩)⟩, ⟨by (try simp only [hl224000_65]); (try simp only [hl224001_65]); (with_reducible repeat (first | apply Kd.R_alloc | apply Kd.R_drewN | apply Kd.R_drew)); exact Kd.R_mono HO_224001.out (fun _ hk => ⟨hk.1.1.1, ⟨hk.1.1.2, hk.2⟩⟩)⟩, ⟨by (try simp only [hl224000_65]); (try simp only [hl224001_65]); (with_reducible repeat (first | apply Kd.R_alloc | apply Kd.R_drewN | apply Kd.R_drew)); exact Kd.R_mono HO_232000.out (fun _ hk => ⟨hk.1.1.1, ⟨hk.1.1.2, hk.2⟩⟩)⟩, ⟨by (try simp only [hl224000_65]); (try simp only [hl224001_65]); (with_reducible repeat (first | apply Kd.R_alloc | apply Kd.R_drewN | apply Kd.R_drew)); exact Kd.R_mono HO_232001.out (fun _ hk => ⟨hk.1.1.1, ⟨hk.1.1.2, hk.2⟩⟩)⟩, ⟨by (try simp only [hl224000_65]); (try simp only [hl224001_65]); (with_reducible repeat (first | apply Kd.R_alloc | apply Kd.R_drewN | apply Kd.R_drew)); exact Kd.R_mono HO256.out (fun _ hk => ⟨hk.1.1.1.2, ⟨hk.1.1.2, hk.1.2⟩⟩)⟩, ⟨by (try simp only [hl224000_65]); (try simp only [hl224001_65]); (with_reducible repeat (first | apply Kd.R_alloc | apply Kd.R_drewN | apply Kd.R_drew)); exact Kd.R_mono HO259.out (fun _ hk => ⟨hk.1.1.1.2, ⟨hk.1.1.2, hk.1.2⟩⟩)⟩, ⟨by (try simp only [hl224000_65]); (try simp only [hl224001_65]); (with_reducible repeat (first | refine blk_drewN ?_ _ | refine blk_drew ?_ | refine blk_alloc ?_ _)); exact BK201.out⟩, ⟨by (try simp only [hl224000_65]); (try simp only [hl224001_65]); (with_reducible repeat (first | refine blk_drewN ?_ _ | refine blk_drew ?_ | refine blk_alloc ?_ _)); exact BK216.out⟩, ⟨by (try simp only [hl224000_65]); (try simp only [hl224001_65]); (with_reducible repeat (first | refine blk_drewN ?_ _ | refine blk_drew ?_ | refine blk_alloc ?_ _)); exact BK223.out⟩, ⟨by (try simp only [hl224000_65]); (try simp only [hl224001_65]); (with_reducible repeat (first | refine blk_drewN ?_ _ | refine blk_drew ?_ | refine blk_alloc ?_ _)); exact BK231.out⟩, ⟨by (try simp only [hl224000_65]); (try simp only [hl224001_65]); (with_reducible repeat (first | refine blk_drewN ?_ _ | refine blk_drew ?_ | refine blk_alloc ?_ _)); exact BK261.out⟩, ⟨xs HB.out⟩⟩
            ·replace c127 := Bool.eq_false_iff.mpr c127
             subst c127
             have H1 : (laws_FnExactPassLock.j2 kj65 t244 true t245 t246) = some true := by first | (rw [if_neg (show ¬ (false = true) by decide)] at H; exact H) | rfl
             clear H
             have H := H1
             clear H1
             have H' := Aside0.mk H
             clear H
             have hnb138 := NB261_201.out
             have hnc138 := NB201_261.out
             have hnb139 := NB261_216.out
             have hnc139 := NB216_261.out
             have hnb140 := NB261_223.out
             have hnc140 := NB223_261.out
             have hnb141 := NB261_231.out
             have hnc141 := NB231_261.out
             have hcz142_0 : w118.cell? ⟨gb261, 0, none⟩ = some (.slice none 0 0) := (blk_cell BK261.out 0).trans rfl
             have hcz142_1 : w118.cell? ⟨gb261, 1, none⟩ = some (.slice none 0 0) := (blk_cell BK261.out 1).trans rfl
             have hfz142_0 := blk_frozen BK261.out 0
             have hfz142_1 := blk_frozen BK261.out 1
             have hnb143 := NB216_201.out
             have hnc143 := NB201_216.out
             have hnb144 := NB216_223.out
             have hnc144 := NB223_216.out
             have hnb145 := NB216_231.out
             have hnc145 := NB231_216.out
             have hcz146_0 : w118.cell? ⟨gb216, 0, none⟩ = some (.slice Ao23 t209.length co23) := (blk_cell BK216.out 0).trans rfl
             have hcz146_1 : w118.cell? ⟨gb216, 1, none⟩ = some (.slice Ao26 t212.length co26) := (blk_cell BK216.out 1).trans rfl
             have hfz146_0 := blk_frozen BK216.out 0
             have hfz146_1 := blk_frozen BK216.out 1
             go_wp2_with (first | ((with_reducible refine gate_callee (f := 14) rfl ?_); refine goesL_ (some 91) rfl rfl Try.func14 (by kernel_rfl) rfl #[.agg #[.slice Ao119 t254.length co119, .slice Ao125 t257.length co125], .agg #[.slice Ao23 t209.length co23, .slice Ao26 t212.length co26]] rfl (by (try simp only [List.map_toArray, List.map_cons, List.map_nil]); first | done | rfl | (simp only [List.length_drop, List.length_take]; rfl)) ?_; (with_reducible refine (laws_eqFlight.calls kj65 _ _ t254 _ _ t257 _ _ t209 _ _ t212 false _ ?side1 ?side2 ?side3 ?side4 ?side5 ?side6 ?side7 ?side8 A126.out).mono ?_); (case side1 => refine (Kd.R_reads' (e := 3) (base := w.heap.size) (ok := fun k_ => ((((True ∧ nS k_ Ao23 t209.length co23) ∧ nS k_ Ao30 t241.length co30) ∧ nS k_ Ao37 t224.length co37) ∧ nS k_ Ao115 t248.length co115)) (n := t254.length) (c := co119) ?_).2.2; exact (by (with_reducible repeat (first | apply Kd.R_alloc | apply Kd.R_drewN | apply Kd.R_drew)); exact (Kd.R_mono (Kd.R_far (p := ⟨gb261, 1, none⟩) (Kd.R_far (p := ⟨gb261, 0, none⟩) (Kd.R_types HO256.out BK261.out (by decide)) (fun _ hk => hk.2) (.slice Ao119 t254.length co119)) (fun _ hk => hk.2) (.slice Ao125 t257.length co125)) (fun _ h_ => h_.1)))); (case side2 => exact (Kd.R_reads' HO256.out).2.1); (case side3 => refine (Kd.R_reads' (e := 4) (base := w.heap.size) (ok := fun k_ => ((((True ∧ nS k_ Ao26 t212.length co26) ∧ nS k_ Ao34 t242.length co34) ∧ nS k_ Ao42 t227.length co42) ∧ nS k_ Ao116 t251.length co116)) (n := t257.length) (c := co125) ?_).2.2; exact (by (with_reducible repeat (first | apply Kd.R_alloc | apply Kd.R_drewN | apply Kd.R_drew)); exact (Kd.R_mono (Kd.R_far (p := ⟨gb261, 1, none⟩) (Kd.R_far (p := ⟨gb261, 0, none⟩) (Kd.R_types HO259.out BK261.out (by decide)) (fun _ hk => hk.2) (.slice Ao119 t254.length co119)) (fun _ hk => hk.2) (.slice Ao125 t257.length co125)) (fun _ h_ => h_.1)))); (case side4 => exact (Kd.R_reads' HO259.out).2.1); (case side5 => refine (Kd.R_reads' (e := 3) (base := w.heap.size) (ok := fun k_ => (((nS k_ Ao30 t241.length co30 ∧ nS k_ Ao37 t224.length co37) ∧ nS k_ Ao115 t248.length co115) ∧ nS k_ Ao119 t254.length co119)) (n := t209.length) (c := co23) ?_).2.2; exact (by (with_reducible repeat (first | apply Kd.R_alloc | apply Kd.R_drewN | apply Kd.R_drew)); exact (Kd.R_mono (Kd.R_far (p := ⟨gb261, 1, none⟩) (Kd.R_far (p := ⟨gb261, 0, none⟩) (Kd.R_types HO_217000.out BK261.out (by decide)) (fun _ hk => hk.2) (.slice Ao119 t254.length co119)) (fun _ hk => hk.2) (.slice Ao125 t257.length co125)) (fun _ h_ => h_.1)))); (case side6 => exact (Kd.R_reads' HO_217000.out).2.1); (case side7 => refine (Kd.R_reads' (e := 4) (base := w.heap.size) (ok := fun k_ => (((nS k_ Ao34 t242.length co34 ∧ nS k_ Ao42 t227.length co42) ∧ nS k_ Ao116 t251.length co116) ∧ nS k_ Ao125 t257.length co125)) (n := t212.length) (c := co26) ?_).2.2; exact (by (with_reducible repeat (first | apply Kd.R_alloc | apply Kd.R_drewN | apply Kd.R_drew)); exact (Kd.R_mono (Kd.R_far (p := ⟨gb261, 1, none⟩) (Kd.R_far (p := ⟨gb261, 0, none⟩) (Kd.R_types HO_217001.out BK261.out (by decide)) (fun _ hk => hk.2) (.slice Ao119 t254.length co119)) (fun _ hk => hk.2) (.slice Ao125 t257.length co125)) (fun _ h_ => h_.1)))); (case side8 => exact (Kd.R_reads' HO_217001.out).2.1); rintro e w147 ⟨rfl, hb⟩; refine ⟨_, rfl, ?_⟩; replace HO_217000 := Aside0.mk (Kd.R_below (by (with_reducible repeat (first | apply Kd.R_alloc | apply Kd.R_drewN | apply Kd.R_drew)); exact (Kd.R_mono (Kd.R_far (p := ⟨gb261, 1, none⟩) (Kd.R_far (p := ⟨gb261, 0, none⟩) (Kd.R_types HO_217000.out BK261.out (by decide)) (fun _ hk => hk.2) (.slice Ao119 t254.length co119)) (fun _ hk => hk.2) (.slice Ao125 t257.length co125)) (fun _ h_ => h_.1))) hb); replace HO_217001 := Aside0.mk (Kd.R_below (by (with_reducible repeat (first | apply Kd.R_alloc | apply Kd.R_drewN | apply Kd.R_drew)); exact (Kd.R_mono (Kd.R_far (p := ⟨gb261, 1, none⟩) (Kd.R_far (p := ⟨gb261, 0, none⟩) (Kd.R_types HO_217001.out BK261.out (by decide)) (fun _ hk => hk.2) (.slice Ao119 t254.length co119)) (fun _ hk => hk.2) (.slice Ao125 t257.length co125)) (fun _ h_ => h_.1))) hb); replace HO_224000 := Aside0.mk (Kd.R_below (by (with_reducible repeat (first | apply Kd.R_alloc | apply Kd.R_drewN | apply Kd.R_drew)); exact (Kd.R_mono (Kd.R_far (p := ⟨gb261, 1, none⟩) (Kd.R_far (p := ⟨gb261, 0, none⟩) (Kd.R_types HO_224000.out BK261.out (by decide)) (fun _ hk => hk.2) (.slice Ao119 t254.length co119)) (fun _ hk => hk.2) (.slice Ao125 t257.length co125)) (fun _ h_ => h_.1))) hb); replace HO_224001 := Aside0.mk (Kd.R_below (by (with_reducible repeat (first | apply Kd.R_alloc | apply Kd.R_drewN | apply Kd.R_drew)); exact (Kd.R_mono (Kd.R_far (p := ⟨gb261, 1, none⟩) (Kd.R_far (p := ⟨gb261, 0, none⟩) (Kd.R_types HO_224001.out BK261.out (by decide)) (fun _ hk => hk.2) (.slice Ao119 t254.length co119)) (fun _ hk => hk.2) (.slice Ao125 t257.length co125)) (fun _ h_ => h_.1))) hb); replace HO_232000 := Aside0.mk (Kd.R_below (by (with_reducible repeat (first | apply Kd.R_alloc | apply Kd.R_drewN | apply Kd.R_drew)); exact (Kd.R_mono (Kd.R_far (p := ⟨gb261, 1, none⟩) (Kd.R_far (p := ⟨gb261, 0, none⟩) (Kd.R_types HO_232000.out BK261.out (by decide)) (fun _ hk => hk.2) (.slice Ao119 t254.length co119)) (fun _ hk => hk.2) (.slice Ao125 t257.length co125)) (fun _ h_ => h_.1))) hb); replace HO_232001 := Aside0.mk (Kd.R_below (by (with_reducible repeat (first | apply Kd.R_alloc | apply Kd.R_drewN | apply Kd.R_drew)); exact (Kd.R_mono (Kd.R_far (p := ⟨gb261, 1, none⟩) (Kd.R_far (p := ⟨gb261, 0, none⟩) (Kd.R_types HO_232001.out BK261.out (by decide)) (fun _ hk => hk.2) (.slice Ao119 t254.length co119)) (fun _ hk => hk.2) (.slice Ao125 t257.length co125)) (fun _ h_ => h_.1))) hb); replace HO250 := Aside0.mk (Kd.R_below (by (with_reducible repeat (first | apply Kd.R_alloc | apply Kd.R_drewN | apply Kd.R_drew)); exact (Kd.R_mono (Kd.R_far (p := ⟨gb261, 1, none⟩) (Kd.R_far (p := ⟨gb261, 0, none⟩) (Kd.R_types HO250.out BK261.out (by decide)) (fun _ hk => hk.2) (.slice Ao119 t254.length co119)) (fun _ hk => hk.2) (.slice Ao125 t257.length co125)) (fun _ h_ => h_.1))) hb); replace HO253 := Aside0.mk (Kd.R_below (by (with_reducible repeat (first | apply Kd.R_alloc | apply Kd.R_drewN | apply Kd.R_drew)); exact (Kd.R_mono (Kd.R_far (p := ⟨gb261, 1, none⟩) (Kd.R_far (p := ⟨gb261, 0, none⟩) (Kd.R_types HO253.out BK261.out (by decide)) (fun _ hk => hk.2) (.slice Ao119 t254.length co119)) (fun _ hk => hk.2) (.slice Ao125 t257.length co125)) (fun _ h_ => h_.1))) hb); replace HO256 := Aside0.mk (Kd.R_below (by (with_reducible repeat (first | apply Kd.R_alloc | apply Kd.R_drewN | apply Kd.R_drew)); exact (Kd.R_mono (Kd.R_far (p := ⟨gb261, 1, none⟩) (Kd.R_far (p := ⟨gb261, 0, none⟩) (Kd.R_types HO256.out BK261.out (by decide)) (fun _ hk => hk.2) (.slice Ao119 t254.length co119)) (fun _ hk => hk.2) (.slice Ao125 t257.length co125)) (fun _ h_ => h_.1))) hb); replace HO259 := Aside0.mk (Kd.R_below (by (with_reducible repeat (first | apply Kd.R_alloc | apply Kd.R_drewN | apply Kd.R_drew)); exact (Kd.R_mono (Kd.R_far (p := ⟨gb261, 1, none⟩) (Kd.R_far (p := ⟨gb261, 0, none⟩) (Kd.R_types HO259.out BK261.out (by decide)) (fun _ hk => hk.2) (.slice Ao119 t254.length co119)) (fun _ hk => hk.2) (.slice Ao125 t257.length co125)) (fun _ h_ => h_.1))) hb); replace BK201 := Aside0.mk (blk_below (g := gb201) (o := .cells #[.slice A0_0 l0_0.length c0_0, .slice A0_1 l0_1.length c0_1] 25 (0, 0)) (xff NB201_261.out NB201_261.out BK201.out) hb); replace BK216 := Aside0.mk (blk_below (g := gb216) (o := .cells #[.slice Ao23 t209.length co23, .slice Ao26 t212.length co26] 29 (0, 0)) (xff NB216_261.out NB216_261.out BK216.out) hb); replace BK223 := Aside0.mk (blk_below (g := gb223) (o := .cells #[.slice Ao30 t241.length co30, .slice Ao34 t242.length co34] 29 (0, 0)) (xff NB223_261.out NB223_261.out BK223.out) hb); replace BK231 := Aside0.mk (blk_below (g := gb231) (o := .cells #[.slice Ao37 t224.length co37, .slice Ao42 t227.length co42] 29 (0, 0)) (xff NB231_261.out NB231_261.out BK231.out) hb); replace BK261 := Aside0.mk (blk_below (g := gb261) (o := .cells #[.slice Ao119 t254.length co119, .slice Ao125 t257.length co125] 29 (0, 0)) (by (with_reducible repeat (first | refine blk_drewN ?_ _ | refine blk_drew ?_ | refine blk_alloc ?_ _)); refine blk_put (cs := #[.slice Ao119 t254.length co119, .slice none 0 0]) ?_ 1 _ rfl; (with_reducible repeat (first | refine blk_drewN ?_ _ | refine blk_drew ?_ | refine blk_alloc ?_ _)); refine blk_put (cs := #[.slice none 0 0, .slice none 0 0]) ?_ 0 _ rfl; (with_reducible repeat (first | refine blk_drewN ?_ _ | refine blk_drew ?_ | refine blk_alloc ?_ _)); exact BK261.out) hb); replace HB := xp HB hb; (try clear hb); (try clear hb2); (try clear hk); (try clear hi)))
             go_meet
             case rel => exact ⟨_, (true), (by first | rfl | (simp; done) | (simp [*]; done)), H', ⟨by have := HJ12.out; have := HJ65.out; first | omega | exact Nat.le_refl _⟩, ⟨by (try simp only [hl224000_65]); (try simp only [hl224001_65]); (with_reducible repeat (first | apply Kd.R_alloc | apply Kd.R_drewN | apply Kd.R_drew)); exact Kd.R_mono HO_217000.out (fun _ hk => ⟨hk.1.1.1, ⟨hk.1.1.2, hk.2⟩⟩)⟩, ⟨by (try simp only [hl224000_65]); (try simp only [hl224001_65]); (with_reducible repeat (first | apply Kd.R_alloc | apply Kd.R_drewN | apply Kd.R_drew)); exact Kd.R_mono HO_217001.out (fun _ hk => ⟨hk.1.1.1, ⟨hk.1.1.2, hk.2⟩⟩)⟩, ⟨by (try simp only [hl224000_65]); (try simp only [hl224001_65]); (with_reducible repeat (first | apply Kd.R_alloc | apply Kd.R_drewN | apply Kd.R_drew)); exact Kd.R_mono HO_224000.out (fun _ hk => ⟨hk.1.1.1, ⟨hk.1.1.2, hk.2⟩⟩)⟩, ⟨by (try simp only [hl224000_65]); (try simp only [hl224001_65]); (with_reducible repeat (first | apply Kd.R_alloc | apply Kd.R_drewN | apply Kd.R_drew)); exact Kd.R_mono HO_224001.out (fun _ hk => ⟨hk.1.1.1, ⟨hk.1.1.2, hk.2⟩⟩)⟩, ⟨by (try simp only [hl224000_65]); (try simp only [hl224001_65]); (with_reducible repeat (first | apply Kd.R_alloc | apply Kd.R_drewN | apply Kd.R_drew)); exact Kd.R_mono HO_232000.out (fun _ hk => ⟨hk.1.1.1, ⟨hk.1.1.2, hk.2⟩⟩)⟩, ⟨by (try simp only [hl224000_65]); (try simp only [hl224001_65]); (with_reducible repeat (first | apply Kd.R_alloc | apply Kd.R_drewN | apply Kd.R_drew)); exact Kd.R_mono HO_232001.out (fun _ hk => ⟨hk.1.1.1, ⟨hk.1.1.2, hk.2⟩⟩)⟩, ⟨by (try simp only [hl224000_65]); (try simp only [hl224001_65]); (with_reducible repeat (first | apply Kd.R_alloc | apply Kd.R_drewN | apply Kd.R_drew)); exact Kd.R_mono HO256.out (fun _ hk => ⟨hk.1.1.1.2, ⟨hk.1.1.2, hk.1.2⟩⟩)⟩, ⟨by (try simp only [hl224000_65]); (try simp only [hl224001_65]); (with_reducible repeat (first | apply Kd.R_alloc | apply Kd.R_drewN | apply Kd.R_drew)); exact Kd.R_mono HO259.out (fun _ hk => ⟨hk.1.1.1.2, ⟨hk.1.1.2, hk.1.2⟩⟩)⟩, ⟨by (try simp only [hl224000_65]); (try simp only [hl224001_65]); (with_reducible repeat (first | refine blk_drewN ?_ _ | refine blk_drew ?_ | refine blk_alloc ?_ _)); exact BK201.out⟩, ⟨by (try simp only [hl224000_65]); (try simp only [hl224001_65]); (with_reducible repeat (first | refine blk_drewN ?_ _ | refine blk_drew ?_ | refine blk_alloc ?_ _)); exact BK216.out⟩, ⟨by (try simp only [hl224000_65]); (try simp only [hl224001_65]); (with_reducible repeat (first | refine blk_drewN ?_ _ | refine blk_drew ?_ | refine blk_alloc ?_ _)); exact BK223.out⟩, ⟨by (try simp only [hl224000_65]); (try simp only [hl224001_65]); (with_reducible repeat (first | refine blk_drewN ?_ _ | refine blk_drew ?_ | refine blk_alloc ?_ _)); exact BK231.out⟩, ⟨by (try simp only [hl224000_65]); (try simp only [hl224001_65]); (with_reducible repeat (first | refine blk_drewN ?_ _ | refine blk_drew ?_ | refine blk_alloc ?_ _)); exact BK261.out⟩, ⟨xs HB.out⟩⟩
           case rest =>
            clear HC103
            try clear c1
            try clear c2
            try clear p2
            try clear c3
            try clear c4
            try clear c5
            try clear c5b0
            try clear c6
            try clear c7
            try clear c8
            try clear c9
            try clear c10
            try clear c11
            try clear c12
            try clear c13
            try clear c14
            try clear c19
            try clear c20
            try clear c24
            try clear c25
            try clear c26
            try clear c31
            try clear c32
            try clear c38
            try clear c39
            try clear c40
            try clear c44
            try clear c45
            try clear c46
            try clear c47
            try clear c49
            try clear c50
            try clear c53
            try clear c54
            try clear c55
            try clear c57
            try clear c58
            try clear c61
            try clear c64
            try clear c72
            try clear c73
            try clear c74
            try clear c77
            try clear c77b0
            try clear c79
            try clear c80
            try clear c81
            try clear c82
            try clear c84
            try clear c85
            try clear c88
            try clear c89
            try clear c90
            try clear c92
            try clear c93
            try clear c96
            try clear c99
            try clear c99b0
            try clear c100
            try clear c100b0
            try clear c100b1
            try clear c104
            try clear c105
            try clear c106
            try clear c111
            try clear c112
            try clear c120
            try clear c121
            try clear c122
            try clear c123
            try clear c127
            try clear c128
            try clear c129
            try clear c130
            try clear c131
            try clear c133
            try clear c134
            try clear c135
            try clear c138
            try clear c139
            try clear c140
            try clear c141
            try clear c143
            try clear c144
            try clear c145
            try clear hcz107_0
            try clear hcz107_1
            try clear hcz109_0
            try clear hcz109_1
            try clear hcz113_0
            try clear hcz113_1
            try clear hcz124_0
            try clear hcz124_1
            try clear hcz132_0
            try clear hcz132_1
            try clear hcz136_0
            try clear hcz136_1
            try clear hcz142_0
            try clear hcz142_1
            try clear hcz146_0
            try clear hcz146_1
            try clear hcz15_0
            try clear hcz15_1
            try clear hcz17_0
            try clear hcz17_1
            try clear hcz25_0
            try clear hcz25_1
            try clear hcz27_0
            try clear hcz27_1
            try clear hcz33_0
            try clear hcz33_1
            try clear hcz41_0
            try clear hcz41_1
            try clear hcz48_0
            try clear hcz48_1
            try clear hcz51_0
            try clear hcz51_1
            try clear hcz56_0
            try clear hcz56_1
            try clear hcz59_0
            try clear hcz59_1
            try clear hcz75_0
            try clear hcz75_1
            try clear hcz7_0
            try clear hcz7_1
            try clear hcz83_0
            try clear hcz83_1
            try clear hcz86_0
            try clear hcz86_1
            try clear hcz91_0
            try clear hcz91_1
            try clear hcz94_0
            try clear hcz94_1
            try clear hfz107_0
            try clear hfz107_1
            try clear hfz109_0
            try clear hfz109_1
            try clear hfz113_0
            try clear hfz113_1
            try clear hfz124_0
            try clear hfz124_1
            try clear hfz132_0
            try clear hfz132_1
            try clear hfz136_0
            try clear hfz136_1
            try clear hfz142_0
            try clear hfz142_1
            try clear hfz146_0
            try clear hfz146_1
            try clear hfz15_0
            try clear hfz15_1
            try clear hfz17_0
            try clear hfz17_1
            try clear hfz25_0
            try clear hfz25_1
            try clear hfz27_0
            try clear hfz27_1
            try clear hfz33_0
            try clear hfz33_1
            try clear hfz41_0
            try clear hfz41_1
            try clear hfz48_0
            try clear hfz48_1
            try clear hfz51_0
            try clear hfz51_1
            try clear hfz56_0
            try clear hfz56_1
            try clear hfz59_0
            try clear hfz59_1
            try clear hfz75_0
            try clear hfz75_1
            try clear hfz7_0
            try clear hfz7_1
            try clear hfz83_0
            try clear hfz83_1
            try clear hfz86_0
            try clear hfz86_1
            try clear hfz91_0
            try clear hfz91_1
            try clear hfz94_0
            try clear hfz94_1
            try clear p2
            obtain ⟨kq, x97_102, rfl, HA, HJ102, HO_217000, HO_217001, HO_224000, HO_224001, HO_232000, HO_232001, HO_262000, HO_262001, BK201, BK216, BK223, BK231, BK261, HB⟩ := hcut
            have hl232000_102 := (Kd.R_reads' HO_232000.out).1
            rw [hl232000_102] at HO_232000
            (try simp only [hl232000_102])
            (try simp only [hl232000_102] at BK201)
            (try simp only [hl232000_102] at BK216)
            (try simp only [hl232000_102] at BK223)
            (try simp only [hl232000_102] at BK231)
            (try simp only [hl232000_102] at BK261)
            (try simp only [hl232000_102] at HO_217000)
            (try simp only [hl232000_102] at HO_217001)
            (try simp only [hl232000_102] at HO_224000)
            (try simp only [hl232000_102] at HO_224001)
            (try simp only [hl232000_102] at HO_232001)
            (try simp only [hl232000_102] at HO_262000)
            (try simp only [hl232000_102] at HO_262001)
            have hl232001_102 := (Kd.R_reads' HO_232001.out).1
            rw [hl232001_102] at HO_232001
            (try simp only [hl232001_102])
            (try simp only [hl232001_102] at BK201)
            (try simp only [hl232001_102] at BK216)
            (try simp only [hl232001_102] at BK223)
            (try simp only [hl232001_102] at BK231)
            (try simp only [hl232001_102] at BK261)
            (try simp only [hl232001_102] at HO_217000)
            (try simp only [hl232001_102] at HO_217001)
            (try simp only [hl232001_102] at HO_224000)
            (try simp only [hl232001_102] at HO_224001)
            (try simp only [hl232001_102] at HO_232000)
            (try simp only [hl232001_102] at HO_262000)
            (try simp only [hl232001_102] at HO_262001)
            cases kq with
            | zero => exact absurd HA.out (by simp [laws_FnExactPassLock.j2])
            | succ kj102 =>
             have H := HA.out
             clear HA
             simp only [laws_FnExactPassLock.j2] at H
             by_cases c148 : x97_102 = true
             ·subst c148
              have H1 : (some false) = some true := by first | (rw [if_pos rfl] at H; exact H) | rfl
              clear H
              have H := H1
              clear H1
              exact absurd H (by simp)
             ·replace c148 := Bool.eq_false_iff.mpr c148
              subst c148
              have H1 : ((laws_heldFlight.f kj102 t245 t246 1).bind fun t263 => (if t263 < 0 then (some false) else (if t263 = t244 then (some true) else (some false)))) = some true := by first | (rw [if_neg (show ¬ (false = true) by decide)] at H; exact H) | rfl
              clear H
              have H := H1
              clear H1
              replace H := Option.bind_eq_some_iff.mp H
              obtain ⟨t263, A1490, H⟩ := H
              replace H : (if t263 < 0 then (some false) else (if t263 = t244 then (some true) else (some false))) = some true := H
              have A149 := Aside0.mk A1490
              clear A1490
              by_cases c150 : t263 < 0
              ·rw [if_pos c150] at H
               have c150b0 : decide (t263 < 0) = true := decide_eq_true c150
               clear c150
               exact absurd H (by simp)
              ·rw [if_neg c150] at H
               have c150b0 : decide (t263 < 0) = false := decide_eq_false c150
               clear c150
               by_cases c151 : t263 = t244
               ·rw [if_pos c151] at H
                have c151b0 : (t263 == t244) = true := beq_iff_eq.mpr c151
                have c151b1 : (t263 != t244) = false := bne_eq_false_iff_eq.mpr c151
                clear c151
                clear H
                have hnb152 := NB231_201.out
                have hnc152 := NB201_231.out
                have hnb153 := NB231_216.out
                have hnc153 := NB216_231.out
                have hnb154 := NB231_223.out
                have hnc154 := NB223_231.out
                have hnb155 := NB231_261.out
                have hnc155 := NB261_231.out
                have hcz156_0 : wc.cell? ⟨gb231, 0, none⟩ = some (.slice Ao37 t245.length co37) := (blk_cell BK231.out 0).trans rfl
                have hcz156_1 : wc.cell? ⟨gb231, 1, none⟩ = some (.slice Ao42 t246.length co42) := (blk_cell BK231.out 1).trans rfl
                have hfz156_0 := blk_frozen BK231.out 0
                have hfz156_1 := blk_frozen BK231.out 1
                go_wp2_with (first | ((with_reducible refine gate_callee (f := 20) rfl ?_); refine goesL_ (some 100) rfl rfl Try.func20 (by kernel_rfl) rfl #[.agg #[.slice Ao37 t245.length co37, .slice Ao42 t246.length co42], .int .i64 1] rfl (by (try simp only [List.map_toArray, List.map_cons, List.map_nil]); first | done | rfl | (simp only [List.length_drop, List.length_take]; rfl)) ?_; (with_reducible refine (laws_heldFlight.calls kj102 _ _ t245 _ _ t246 1 t263 _ ?side1 ?side2 ?side3 ?side4 A149.out).mono ?_); (case side1 => exact xd ((Kd.R_reads' HO_232000.out).2.2)); (case side2 => exact (Kd.R_reads' HO_232000.out).2.1); (case side3 => exact xd ((Kd.R_reads' HO_232001.out).2.2)); (case side4 => exact (Kd.R_reads' HO_232001.out).2.1); rintro e w157 ⟨rfl, hb⟩; refine ⟨_, rfl, ?_⟩; replace HO_217000 := xq HO_217000 hb; replace HO_217001 := xq HO_217001 hb; replace HO_224000 := xq HO_224000 hb; replace HO_224001 := xq HO_224001 hb; replace HO_232000 := xq HO_232000 hb; replace HO_232001 := xq HO_232001 hb; replace HO_262000 := xq HO_262000 hb; replace HO_262001 := xq HO_262001 hb; replace BK201 := xk BK201 hb; replace BK216 := xk BK216 hb; replace BK223 := xk BK223 hb; replace BK231 := xk BK231 hb; replace BK261 := xk BK261 hb; replace HB := xp HB hb; (try clear hb); (try clear hb2); (try clear hk); (try clear hi)))
                go_ret
                exact ⟨by first | rfl | (simp [errW_none, errW_some] <;> rfl) | (simp [*, errW_none, errW_some] <;> rfl), by repeat (first | (with_reducible first | exact HB.out | apply below_alloc | apply pw_below_drewN | apply below_drew1 | refine below_set ?_ GE201.out | refine below_set ?_ GE216.out | refine below_set ?_ GE223.out | refine below_set ?_ GE231.out | refine below_set ?_ GE261.out) | exact HB.out)⟩
               ·rw [if_neg c151] at H
                have c151b0 : (t263 == t244) = false := beq_eq_false_iff_ne.mpr c151
                have c151b1 : (t263 != t244) = true := bne_iff_ne.mpr c151
                exact absurd H (by simp)
          ·rw [if_neg c100] at H
           have c100b0 : (t247 == t244) = false := beq_eq_false_iff_ne.mpr c100
           have c100b1 : (t247 != t244) = true := bne_iff_ne.mpr c100
           exact absurd H (by simp)
     ·replace c64 := Bool.eq_false_iff.mpr c64
      subst c64
      have H1 : (some false) = some true := by first | (rw [if_neg (show ¬ (false = true) by decide)] at H; exact H) | rfl
      clear H
      have H := H1
      clear H1
      exact absurd H (by simp)

end Go.Proofs.Ytmedapafllmhjaa.PFnExactPassLock

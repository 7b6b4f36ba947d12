/- Lean functions of the Go functions that the law FnExactRunShip reaches, and the proofs that the calls come to what they say (made by program). -/
import Derived.Test.YtmedapafllmhjaaAb
import Derived.Test.YtmedapafllmhjaaPFnExactRunShipx0
import Derived.Test.YtmedapafllmhjaaPFnExactRunShipx1
import Derived.Test.YtmedapafllmhjaaPFnExactRunShipx2
import Derived.Test.YtmedapafllmhjaaPFnExactRunShipx3
import Derived.Test.YtmedapafllmhjaaPFnExactRunShipx5
namespace Go.Proofs.Ytmedapafllmhjaa.PFnExactRunShip
open Go.RowKit Go.Proofs.YtmedapafllmhjaaW.PrintWords Go.Proofs.YtmedapafllmhjaaW.PrintLast Go.Proofs.YtmedapafllmhjaaW.PrintMore Go.Proofs.Ytmedapafllmhjaa.Ab
attribute [local go_sem] max2_int min2_int max_two min_two max_three min_three max_four min_four   -- for this text's walks alone
set_option linter.unusedVariables false
set_option linter.unusedSimpArgs false

/-! ### laws_FnExactRunShip: function 9 -/
mutual
def laws_FnExactRunShip.j0 : Nat → Bool → Bool → Bool → Bool → List Int → List Bool → List Int → List Bool → List Int → List Bool → List Int → List Bool → Option (Bool)
  | 0, _, _, _, _, _, _, _, _, _, _, _, _ => none
  | k + 1, x1, x7, x10, x44, x196000, x196001, x211000, x211001, x218000, x218001, x226000, x226001 => if x44 = true then (some false) else ((laws_toFlight.f k x196000 x196001).bind fun bt227 => ((laws_eqFlight.f k x218000 x218001 bt227.1 bt227.2).bind fun t233 => (if t233 = true then ((laws_markFlight.f k x218000 x218001 1).bind fun bt234 => (if bt234.1 < 0 then (laws_FnExactRunShip.j1 k x1 x7 true x196000 x196001 x211000 x211001 x226000 x226001) else ((laws_eqFlight.f k x226000 x226001 x211000 x211001).bind fun t237 => (if t237 = true then (laws_FnExactRunShip.j1 k x1 x7 (x10 != x7) x196000 x196001 x211000 x211001 x226000 x226001) else (laws_FnExactRunShip.j1 k x1 x7 true x196000 x196001 x211000 x211001 x226000 x226001))))) else (some false))))
def laws_FnExactRunShip.j1 : Nat → Bool → Bool → Bool → List Int → List Bool → List Int → List Bool → List Int → List Bool → Option (Bool)
  | 0, _, _, _, _, _, _, _, _, _ => none
  | k + 1, x1, x7, x65, x196000, x196001, x211000, x211001, x226000, x226001 => if x65 = true then (some false) else ((laws_markFlight.f k x226000 x226001 1).bind fun bt238 => ((laws_heldFlight.f k bt238.2.1 bt238.2.2 1).bind fun t241 => (if t241 < 0 then (some false) else (if t241 = bt238.1 then ((laws_toFlight.f k x196000 x196001).bind fun bt242 => ((impl_RunShip.f bt242.1 bt242.2 x1).bind fun bt248 => ((laws_eqFlight.f k bt248.1 bt248.2.1 x211000 x211001).bind fun t256 => (if t256 = true then (laws_FnExactRunShip.j2 k bt238.1 (bt248.2.2 != x7) bt238.2.1 bt238.2.2) else (laws_FnExactRunShip.j2 k bt238.1 true bt238.2.1 bt238.2.2))))) else (some false)))))
def laws_FnExactRunShip.j2 : Nat → Int → Bool → List Int → List Bool → Option (Bool)
  | 0, _, _, _, _ => none
  | k + 1, x12, x92, x226000, x226001 => if x92 = true then (some false) else ((laws_heldFlight.f k x226000 x226001 1).bind fun t257 => (if t257 < 0 then (some false) else (if t257 = x12 then (some true) else (some false))))
end
def laws_FnExactRunShip.f (k : Nat) (l0_0 : List Int) (l0_1 : List Bool) (a1 : Bool) : Option (Bool) := (laws_szFlight.f l0_0 l0_1 1048576).bind fun t196 => (if t196 < 0 then (some true) else ((laws_toFlight.f k l0_0 l0_1).bind fun bt197 => ((spec_RunShip.f k bt197.1 bt197.2 a1).bind fun bt203 => ((laws_toFlight.f k l0_0 l0_1).bind fun bt211 => ((impl_RunShip.f bt211.1 bt211.2 a1).bind fun bt218 => ((laws_eqFlight.f k bt218.1 bt218.2.1 bt203.1 bt203.2.1).bind fun t226 => (if t226 = true then (laws_FnExactRunShip.j0 k a1 bt203.2.2 bt218.2.2 (bt218.2.2 != bt203.2.2) l0_0 l0_1 bt203.1 bt203.2.1 bt211.1 bt211.2 bt218.1 bt218.2.1) else (laws_FnExactRunShip.j0 k a1 bt203.2.2 bt218.2.2 true l0_0 l0_1 bt203.1 bt203.2.1 bt211.1 bt211.2 bt218.1 bt218.2.1))))))))
theorem laws_FnExactRunShip.mono_l : ∀ k, (∀ y0 y1 y2 y3 y4 y5 y6 y7 y8 y9 y10 y11, LeO (laws_FnExactRunShip.j0 k y0 y1 y2 y3 y4 y5 y6 y7 y8 y9 y10 y11) (laws_FnExactRunShip.j0 (k + 1) y0 y1 y2 y3 y4 y5 y6 y7 y8 y9 y10 y11)) ∧ (∀ y0 y1 y2 y3 y4 y5 y6 y7 y8, LeO (laws_FnExactRunShip.j1 k y0 y1 y2 y3 y4 y5 y6 y7 y8) (laws_FnExactRunShip.j1 (k + 1) y0 y1 y2 y3 y4 y5 y6 y7 y8)) ∧ (∀ y0 y1 y2 y3, LeO (laws_FnExactRunShip.j2 k y0 y1 y2 y3) (laws_FnExactRunShip.j2 (k + 1) y0 y1 y2 y3))
 | 0 => ⟨fun _ _ _ _ _ _ _ _ _ _ _ _ r h => by simp [laws_FnExactRunShip.j0] at h, fun _ _ _ _ _ _ _ _ _ r h => by simp [laws_FnExactRunShip.j1] at h, fun _ _ _ _ r h => by simp [laws_FnExactRunShip.j2] at h⟩
 | k + 1 => by
  obtain ⟨ih0, ih1, ih2⟩ := laws_FnExactRunShip.mono_l k
  refine ⟨?_, ?_, ?_⟩
  ·intro y0 y1 y2 y3 y4 y5 y6 y7 y8 y9 y10 y11
   unfold laws_FnExactRunShip.j0
   repeat' first
   | (with_reducible exact ih0 _ _ _ _ _ _ _ _ _ _ _ _)
   | (with_reducible exact ih1 _ _ _ _ _ _ _ _ _)
   | (with_reducible exact ih2 _ _ _ _)
   | (with_reducible exact laws_eqFlight.mono _ _ _ _ _)
   | (with_reducible exact laws_heldFlight.mono _ _ _ _)
   | (with_reducible exact laws_markFlight.mono _ _ _ _)
   | (with_reducible exact laws_toFlight.mono _ _ _)
   | (with_reducible exact spec_RunShip.mono _ _ _ _)
   | (with_reducible exact LeO.refl _)
   | (with_reducible exact LeO.none _)
   | (with_reducible refine LeO.ite ?_ ?_)
   | (with_reducible refine LeO.bind ?_ (fun _ => ?_))
   | exact ih0 _ _ _ _ _ _ _ _ _ _ _ _
   | exact ih1 _ _ _ _ _ _ _ _ _
   | exact ih2 _ _ _ _
   | exact laws_eqFlight.mono _ _ _ _ _
   | exact laws_heldFlight.mono _ _ _ _
   | exact laws_markFlight.mono _ _ _ _
   | exact laws_toFlight.mono _ _ _
   | exact spec_RunShip.mono _ _ _ _
   | exact LeO.none _
   | refine LeO.ite ?_ ?_
   | refine LeO.bind ?_ (fun _ => ?_)
  ·intro y0 y1 y2 y3 y4 y5 y6 y7 y8
   unfold laws_FnExactRunShip.j1
   repeat' first
   | (with_reducible exact ih0 _ _ _ _ _ _ _ _ _ _ _ _)
   | (with_reducible exact ih1 _ _ _ _ _ _ _ _ _)
   | (with_reducible exact ih2 _ _ _ _)
   | (with_reducible exact laws_eqFlight.mono _ _ _ _ _)
   | (with_reducible exact laws_heldFlight.mono _ _ _ _)
   | (with_reducible exact laws_markFlight.mono _ _ _ _)
   | (with_reducible exact laws_toFlight.mono _ _ _)
   | (with_reducible exact spec_RunShip.mono _ _ _ _)
   | (with_reducible exact LeO.refl _)
   | (with_reducible exact LeO.none _)
   | (with_reducible refine LeO.ite ?_ ?_)
   | (with_reducible refine LeO.bind ?_ (fun _ => ?_))
   | exact ih0 _ _ _ _ _ _ _ _ _ _ _ _
   | exact ih1 _ _ _ _ _ _ _ _ _
   | exact ih2 _ _ _ _
   | exact laws_eqFlight.mono _ _ _ _ _
   | exact laws_heldFlight.mono _ _ _ _
   | exact laws_markFlight.mono _ _ _ _
   | exact laws_toFlight.mono _ _ _
   | exact spec_RunShip.mono _ _ _ _
   | exact LeO.none _
   | refine LeO.ite ?_ ?_
   | refine LeO.bind ?_ (fun _ => ?_)
  ·intro y0 y1 y2 y3
   unfold laws_FnExactRunShip.j2
   repeat' first
   | (with_reducible exact ih0 _ _ _ _ _ _ _ _ _ _ _ _)
   | (with_reducible exact ih1 _ _ _ _ _ _ _ _ _)
   | (with_reducible exact ih2 _ _ _ _)
   | (with_reducible exact laws_eqFlight.mono _ _ _ _ _)
   | (with_reducible exact laws_heldFlight.mono _ _ _ _)
   | (with_reducible exact laws_markFlight.mono _ _ _ _)
   | (with_reducible exact laws_toFlight.mono _ _ _)
   | (with_reducible exact spec_RunShip.mono _ _ _ _)
   | (with_reducible exact LeO.refl _)
   | (with_reducible exact LeO.none _)
   | (with_reducible refine LeO.ite ?_ ?_)
   | (with_reducible refine LeO.bind ?_ (fun _ => ?_))
   | exact ih0 _ _ _ _ _ _ _ _ _ _ _ _
   | exact ih1 _ _ _ _ _ _ _ _ _
   | exact ih2 _ _ _ _
   | exact laws_eqFlight.mono _ _ _ _ _
   | exact laws_heldFlight.mono _ _ _ _
   | exact laws_markFlight.mono _ _ _ _
   | exact laws_toFlight.mono _ _ _
   | exact spec_RunShip.mono _ _ _ _
   | exact LeO.none _
   | refine LeO.ite ?_ ?_
   | refine LeO.bind ?_ (fun _ => ?_)
theorem laws_FnExactRunShip.mono : ∀ a0 a1 a2 k, LeO (laws_FnExactRunShip.f k a0 a1 a2) (laws_FnExactRunShip.f (k + 1) a0 a1 a2) := by
 intro a0 a1 a2 k
 obtain ⟨ih0, ih1, ih2⟩ := laws_FnExactRunShip.mono_l k
 unfold laws_FnExactRunShip.f
 repeat' first
   | (with_reducible exact ih0 _ _ _ _ _ _ _ _ _ _ _ _)
   | (with_reducible exact ih1 _ _ _ _ _ _ _ _ _)
   | (with_reducible exact ih2 _ _ _ _)
   | (with_reducible exact laws_eqFlight.mono _ _ _ _ _)
   | (with_reducible exact laws_heldFlight.mono _ _ _ _)
   | (with_reducible exact laws_markFlight.mono _ _ _ _)
   | (with_reducible exact laws_toFlight.mono _ _ _)
   | (with_reducible exact spec_RunShip.mono _ _ _ _)
   | (with_reducible exact LeO.refl _)
   | (with_reducible exact LeO.none _)
   | (with_reducible refine LeO.ite ?_ ?_)
   | (with_reducible refine LeO.bind ?_ (fun _ => ?_))
   | exact ih0 _ _ _ _ _ _ _ _ _ _ _ _
   | exact ih1 _ _ _ _ _ _ _ _ _
   | exact ih2 _ _ _ _
   | exact laws_eqFlight.mono _ _ _ _ _
   | exact laws_heldFlight.mono _ _ _ _
   | exact laws_markFlight.mono _ _ _ _
   | exact laws_toFlight.mono _ _ _
   | exact spec_RunShip.mono _ _ _ _
   | exact LeO.none _
   | refine LeO.ite ?_ ?_
   | refine LeO.bind ?_ (fun _ => ?_)
set_option maxHeartbeats 8000000 in
set_option maxRecDepth 100000 in
theorem laws_FnExactRunShip.calls (k : Nat) (A0_0 : Option Addr) (c0_0 : Nat) (l0_0 : List Int) (A0_1 : Option Addr) (c0_1 : Nat) (l0_1 : List Bool) (a1 : Bool) (w : World) (hr0_0 : Kd.C (Kd.int .i64) w A0_0 l0_0.length l0_0) (hc0_0 : l0_0.length ≤ c0_0) (hr0_1 : Kd.C Kd.bool w A0_1 l0_1.length l0_1) (hc0_1 : l0_1.length ≤ c0_1) (h : laws_FnExactRunShip.f k l0_0 l0_1 a1 = some true) :
  Calls Try.prog 9 #[.agg #[.slice A0_0 l0_0.length c0_0, .slice A0_1 l0_1.length c0_1], .bool a1] w fun e w' => e = .returned (.bool true) ∧ Below w.heap.size w w' := by
 have hu25 := Try.underlying25
 have hu29 := Try.underlying29
 have HR0_0 := Aside0.mk hr0_0
 have HC0_0 := Aside0.mk hc0_0
 clear hr0_0 hc0_0
 have HR0_1 := Aside0.mk hr0_1
 have HC0_1 := Aside0.mk hc0_1
 clear hr0_1 hc0_1
 have HB := Aside0.mk (Below.refl w.heap.size w)
 have H : ((laws_szFlight.f l0_0 l0_1 1048576).bind fun t196 => (if t196 < 0 then (some true) else ((laws_toFlight.f k l0_0 l0_1).bind fun bt197 => ((spec_RunShip.f k bt197.1 bt197.2 a1).bind fun bt203 => ((laws_toFlight.f k l0_0 l0_1).bind fun bt211 => ((impl_RunShip.f bt211.1 bt211.2 a1).bind fun bt218 => ((laws_eqFlight.f k bt218.1 bt218.2.1 bt203.1 bt203.2.1).bind fun t226 => (if t226 = true then (laws_FnExactRunShip.j0 k a1 bt203.2.2 bt218.2.2 (bt218.2.2 != bt203.2.2) l0_0 l0_1 bt203.1 bt203.2.1 bt211.1 bt211.2 bt218.1 bt218.2.1) else (laws_FnExactRunShip.j0 k a1 bt203.2.2 bt218.2.2 true l0_0 l0_1 bt203.1 bt203.2.1 bt211.1 bt211.2 bt218.1 bt218.2.1))))))))) = some true := h
 clear h
 replace H := Option.bind_eq_some_iff.mp H
 obtain ⟨t196, A30, H⟩ := H
 replace H : (if t196 < 0 then (some true) else ((laws_toFlight.f k l0_0 l0_1).bind fun bt197 => ((spec_RunShip.f k bt197.1 bt197.2 a1).bind fun bt203 => ((laws_toFlight.f k l0_0 l0_1).bind fun bt211 => ((impl_RunShip.f bt211.1 bt211.2 a1).bind fun bt218 => ((laws_eqFlight.f k bt218.1 bt218.2.1 bt203.1 bt203.2.1).bind fun t226 => (if t226 = true then (laws_FnExactRunShip.j0 k a1 bt203.2.2 bt218.2.2 (bt218.2.2 != bt203.2.2) l0_0 l0_1 bt203.1 bt203.2.1 bt211.1 bt211.2 bt218.1 bt218.2.1) else (laws_FnExactRunShip.j0 k a1 bt203.2.2 bt218.2.2 true l0_0 l0_1 bt203.1 bt203.2.1 bt211.1 bt211.2 bt218.1 bt218.2.1)))))))) = some true := H
 have A3 := Aside0.mk A30
 clear A30
 by_cases c4 : t196 < 0
 ·rw [if_pos c4] at H
  have c4b0 : decide (t196 < 0) = true := decide_eq_true c4
  clear c4
  clear H
  go_enter Try.func9, Try.ntmps9
  go_wp2_with (first | ((with_reducible refine gate_dst (N := 2) rfl ?_); refine box_event ?hg (N := 2) ?hd (cs := #[.slice A0_0 l0_0.length c0_0, .slice A0_1 l0_1.length c0_1]) (t := 25) ?hr ?_; (case hd => rfl); (case hg => rfl); (case hr => first | (go_simp; done) | (go_simp; rfl)); intro gb195 hg w5 hbox hb; have BK195 := Aside0.mk (hbox); have GW195 := xg HB hg; have GE195 := xg HB hg; replace HB := xp HB hb; clear hb hbox hg; have hcz6_0 : w5.cell? ⟨gb195, 0, none⟩ = some (.slice A0_0 l0_0.length c0_0) := (blk_cell BK195.out 0).trans rfl; have hcz6_1 : w5.cell? ⟨gb195, 1, none⟩ = some (.slice A0_1 l0_1.length c0_1) := (blk_cell BK195.out 1).trans rfl; have hfz6_0 := blk_frozen BK195.out 0; have hfz6_1 := blk_frozen BK195.out 1) | ((with_reducible refine gate_callee (f := 10) rfl ?_); refine goesL_ (some 18) rfl rfl Try.func10 (by kernel_rfl) rfl #[.agg #[.slice A0_0 l0_0.length c0_0, .slice A0_1 l0_1.length c0_1], .int .i64 1048576] rfl (by (try simp only [List.map_toArray, List.map_cons, List.map_nil]); first | done | rfl | (simp only [List.length_drop, List.length_take]; rfl)) ?_; (with_reducible refine (laws_szFlight.calls _ _ l0_0 _ _ l0_1 1048576 t196 _ ?side1 ?side2 ?side3 ?side4 A3.out).mono ?_); (case side1 => exact xd ((Kd.C_below HR0_0.out HB.out))); (case side2 => exact HC0_0.out); (case side3 => exact xd ((Kd.C_below HR0_1.out HB.out))); (case side4 => exact HC0_1.out); rintro e w7 ⟨rfl, hb⟩; refine ⟨_, rfl, ?_⟩; replace BK195 := xk BK195 hb; replace HB := xp HB hb; (try clear hb); (try clear hb2); (try clear hk); (try clear hi)))
  go_ret
  exact ⟨by first | rfl | (simp [errW_none, errW_some] <;> rfl) | (simp [*, errW_none, errW_some] <;> rfl), by repeat (first | (with_reducible first | exact HB.out | apply below_alloc | apply pw_below_drewN | apply below_drew1 | refine below_set ?_ GE195.out) | exact HB.out)⟩
 ·rw [if_neg c4] at H
  have c4b0 : decide (t196 < 0) = false := decide_eq_false c4
  clear c4
  replace H := Option.bind_eq_some_iff.mp H
  obtain ⟨⟨t197, t200⟩, A80, H⟩ := H
  replace H : ((spec_RunShip.f k t197 t200 a1).bind fun bt203 => ((laws_toFlight.f k l0_0 l0_1).bind fun bt211 => ((impl_RunShip.f bt211.1 bt211.2 a1).bind fun bt218 => ((laws_eqFlight.f k bt218.1 bt218.2.1 bt203.1 bt203.2.1).bind fun t226 => (if t226 = true then (laws_FnExactRunShip.j0 k a1 bt203.2.2 bt218.2.2 (bt218.2.2 != bt203.2.2) l0_0 l0_1 bt203.1 bt203.2.1 bt211.1 bt211.2 bt218.1 bt218.2.1) else (laws_FnExactRunShip.j0 k a1 bt203.2.2 bt218.2.2 true l0_0 l0_1 bt203.1 bt203.2.1 bt211.1 bt211.2 bt218.1 bt218.2.1)))))) = some true := H
  have A8 := Aside0.mk A80
  clear A80
  replace H := Option.bind_eq_some_iff.mp H
  obtain ⟨⟨t203, t206, t209⟩, A90, H⟩ := H
  replace H : ((laws_toFlight.f k l0_0 l0_1).bind fun bt211 => ((impl_RunShip.f bt211.1 bt211.2 a1).bind fun bt218 => ((laws_eqFlight.f k bt218.1 bt218.2.1 t203 t206).bind fun t226 => (if t226 = true then (laws_FnExactRunShip.j0 k a1 t209 bt218.2.2 (bt218.2.2 != t209) l0_0 l0_1 t203 t206 bt211.1 bt211.2 bt218.1 bt218.2.1) else (laws_FnExactRunShip.j0 k a1 t209 bt218.2.2 true l0_0 l0_1 t203 t206 bt211.1 bt211.2 bt218.1 bt218.2.1))))) = some true := H
  have A9 := Aside0.mk A90
  clear A90
  replace H := Option.bind_eq_some_iff.mp H
  obtain ⟨⟨t211, t214⟩, A100, H⟩ := H
  replace H : ((impl_RunShip.f t211 t214 a1).bind fun bt218 => ((laws_eqFlight.f k bt218.1 bt218.2.1 t203 t206).bind fun t226 => (if t226 = true then (laws_FnExactRunShip.j0 k a1 t209 bt218.2.2 (bt218.2.2 != t209) l0_0 l0_1 t203 t206 t211 t214 bt218.1 bt218.2.1) else (laws_FnExactRunShip.j0 k a1 t209 bt218.2.2 true l0_0 l0_1 t203 t206 t211 t214 bt218.1 bt218.2.1)))) = some true := H
  have A10 := Aside0.mk A100
  clear A100
  replace H := Option.bind_eq_some_iff.mp H
  obtain ⟨⟨t218, t221, t224⟩, A110, H⟩ := H
  replace H : ((laws_eqFlight.f k t218 t221 t203 t206).bind fun t226 => (if t226 = true then (laws_FnExactRunShip.j0 k a1 t209 t224 (t224 != t209) l0_0 l0_1 t203 t206 t211 t214 t218 t221) else (laws_FnExactRunShip.j0 k a1 t209 t224 true l0_0 l0_1 t203 t206 t211 t214 t218 t221))) = some true := H
  have A11 := Aside0.mk A110
  clear A110
  have HC12 := Aside0.mk H
  clear H
  go_enter Try.func9, Try.ntmps9
  go_upto_region 8 with (first | ((with_reducible refine gate_dst (N := 2) rfl ?_); refine box_event ?hg (N := 2) ?hd (cs := #[.slice A0_0 l0_0.length c0_0, .slice A0_1 l0_1.length c0_1]) (t := 25) ?hr ?_; (case hd => rfl); (case hg => rfl); (case hr => first | (go_simp; done) | (go_simp; rfl)); intro gb195 hg w13 hbox hb; have BK195 := Aside0.mk (hbox); have GW195 := xg HB hg; have GE195 := xg HB hg; replace HB := xp HB hb; clear hb hbox hg; have hcz14_0 : w13.cell? ⟨gb195, 0, none⟩ = some (.slice A0_0 l0_0.length c0_0) := (blk_cell BK195.out 0).trans rfl; have hcz14_1 : w13.cell? ⟨gb195, 1, none⟩ = some (.slice A0_1 l0_1.length c0_1) := (blk_cell BK195.out 1).trans rfl; have hfz14_0 := blk_frozen BK195.out 0; have hfz14_1 := blk_frozen BK195.out 1) | ((with_reducible refine gate_callee (f := 10) rfl ?_); refine goesL_ (some 18) rfl rfl Try.func10 (by kernel_rfl) rfl #[.agg #[.slice A0_0 l0_0.length c0_0, .slice A0_1 l0_1.length c0_1], .int .i64 1048576] rfl (by (try simp only [List.map_toArray, List.map_cons, List.map_nil]); first | done | rfl | (simp only [List.length_drop, List.length_take]; rfl)) ?_; (with_reducible refine (laws_szFlight.calls _ _ l0_0 _ _ l0_1 1048576 t196 _ ?side1 ?side2 ?side3 ?side4 A3.out).mono ?_); (case side1 => exact xd ((Kd.C_below HR0_0.out HB.out))); (case side2 => exact HC0_0.out); (case side3 => exact xd ((Kd.C_below HR0_1.out HB.out))); (case side4 => exact HC0_1.out); rintro e w15 ⟨rfl, hb⟩; refine ⟨_, rfl, ?_⟩; replace BK195 := xk BK195 hb; replace HB := xp HB hb; (try clear hb); (try clear hb2); (try clear hk); (try clear hi); have hcz16_0 : w15.cell? ⟨gb195, 0, none⟩ = some (.slice A0_0 l0_0.length c0_0) := (blk_cell BK195.out 0).trans rfl; have hcz16_1 : w15.cell? ⟨gb195, 1, none⟩ = some (.slice A0_1 l0_1.length c0_1) := (blk_cell BK195.out 1).trans rfl; have hfz16_0 := blk_frozen BK195.out 0; have hfz16_1 := blk_frozen BK195.out 1) | ((with_reducible refine gate_callee (f := 12) rfl ?_); refine goesL_ (some 23) rfl rfl Try.func12 (by kernel_rfl) rfl #[.agg #[.slice A0_0 l0_0.length c0_0, .slice A0_1 l0_1.length c0_1]] rfl (by (try simp only [List.map_toArray, List.map_cons, List.map_nil]); first | done | rfl | (simp only [List.length_drop, List.length_take]; rfl)) ?_; (with_reducible refine (laws_toFlight.calls k _ _ l0_0 _ _ l0_1 t197 t200 _ ?side1 ?side2 ?side3 ?side4 A8.out).mono ?_); (case side1 => exact xd ((Kd.C_below HR0_0.out HB.out))); (case side2 => exact HC0_0.out); (case side3 => exact xd ((Kd.C_below HR0_1.out HB.out))); (case side4 => exact HC0_1.out); rintro e w17 ⟨v198, v201, rfl, ho0, ho1, hb⟩; refine ⟨_, rfl, ?_⟩; have HO199 := Aside0.mk (Kd.R_lower ho0 (below_size (xs HB.out))); have HO202 := Aside0.mk (Kd.R_lower ho1 (below_size (xs HB.out))); replace BK195 := xk BK195 hb; replace HB := xp HB hb; (try clear hb); (try clear hb2); (try clear hk); (try clear hi); (try clear ho0); (try clear ho1); obtain ⟨Ao18, co18, eo18⟩ := Kd.R_slice HO199.out; subst eo18; obtain ⟨Ao19, co19, eo19⟩ := Kd.R_slice HO202.out; subst eo19) | ((with_reducible refine gate_callee (f := 27) rfl ?_); refine goesL_ (some 25) rfl rfl Try.func27 (by kernel_rfl) rfl #[.agg #[.slice Ao18 t197.length co18, .slice Ao19 t200.length co19], .bool a1] rfl (by (try simp only [List.map_toArray, List.map_cons, List.map_nil]); first | done | rfl | (simp only [List.length_drop, List.length_take]; rfl)) ?_; (with_reducible refine (spec_RunShip.calls k _ _ t197 _ _ t200 a1 t203 t206 t209 _ ?side1 ?side2 ?side3 ?side4 A9.out).mono ?_); (case side1 => exact xd ((Kd.R_reads' HO199.out).2.2)); (case side2 => exact (Kd.R_reads' HO199.out).2.1); (case side3 => exact xd ((Kd.R_reads' HO202.out).2.2)); (case side4 => exact (Kd.R_reads' HO202.out).2.1); rintro e w20 ⟨v204, v207, rfl, ho0, ho1, hb⟩; refine ⟨_, rfl, ?_⟩; have HO205 := Aside0.mk (Kd.R_lower (Kd.R_new' ho0 (Kd.R_lt (xr HO199.out))) (below_size (xs HB.out))); replace HO199 := Aside0.mk (Kd.R_elder' (xr HO199.out) (Kd.R_base ho0) hb); have HO208 := Aside0.mk (Kd.R_lower (Kd.R_new' ho1 (Kd.R_lt (xr HO202.out))) (below_size (xs HB.out))); replace HO202 := Aside0.mk (Kd.R_elder' (xr HO202.out) (Kd.R_base ho1) hb); replace BK195 := xk BK195 hb; replace HB := xp HB hb; (try clear hb); (try clear hb2); (try clear hk); (try clear hi); (try clear ho0); (try clear ho1)) | ((with_reducible refine gate_dst (N := 6) rfl ?_); refine box_event ?hg (N := 6) ?hd (cs := #[.slice none 0 0, .slice none 0 0]) (t := 29) ?hr ?_; (case hd => rfl); (case hg => rfl); (case hr => first | (go_simp; done) | (go_simp; rfl)); intro gb210 hg w21 hbox hb; replace HO199 := xq HO199 hb; replace HO202 := xq HO202 hb; replace HO205 := xq HO205 hb; replace HO208 := xq HO208 hb; have BK210 := Aside0.mk (hbox); have GW210 := xg HB hg; have GE210 := xg HB hg; replace HB := xp HB hb; have NB195_210 := xl BK195 hg; have NB210_195 := xh BK195 hg; replace BK195 := xk BK195 hb; clear hb hbox hg; obtain ⟨Ao22, co22, eo22⟩ := Kd.R_slice HO205.out; subst eo22; have hnb23 := NB210_195.out; have hnc23 := NB195_210.out; have hcz24_0 : w21.cell? ⟨gb210, 0, none⟩ = some (.slice none 0 0) := (blk_cell BK210.out 0).trans rfl; have hcz24_1 : w21.cell? ⟨gb210, 1, none⟩ = some (.slice none 0 0) := (blk_cell BK210.out 1).trans rfl; have hfz24_0 := blk_frozen BK210.out 0; have hfz24_1 := blk_frozen BK210.out 1; obtain ⟨Ao25, co25, eo25⟩ := Kd.R_slice HO208.out; subst eo25; have hcz26_0 : w21.cell? ⟨gb195, 0, none⟩ = some (.slice A0_0 l0_0.length c0_0) := (blk_cell BK195.out 0).trans rfl; have hcz26_1 : w21.cell? ⟨gb195, 1, none⟩ = some (.slice A0_1 l0_1.length c0_1) := (blk_cell BK195.out 1).trans rfl; have hfz26_0 := blk_frozen BK195.out 0; have hfz26_1 := blk_frozen BK195.out 1) | ((with_reducible refine gate_callee (f := 12) rfl ?_); refine goesL_ (some 29) rfl rfl Try.func12 (by kernel_rfl) rfl #[.agg #[.slice A0_0 l0_0.length c0_0, .slice A0_1 l0_1.length c0_1]] rfl (by (try simp only [List.map_toArray, List.map_cons, List.map_nil]); first | done | rfl | (simp only [List.length_drop, List.length_take]; rfl)) ?_; (with_reducible refine (laws_toFlight.calls k _ _ l0_0 _ _ l0_1 t211 t214 _ ?side1 ?side2 ?side3 ?side4 A10.out).mono ?_); (case side1 => exact Kd.C_below HR0_0.out (xs HB.out)); (case side2 => exact HC0_0.out); (case side3 => exact Kd.C_below HR0_1.out (xs HB.out)); (case side4 => exact HC0_1.out); rintro e w27 ⟨v212, v215, rfl, ho0, ho1, hb⟩; refine ⟨_, rfl, ?_⟩; have HO213 := Aside0.mk (Kd.R_lower (Kd.R_new' (Kd.R_new' ho0 (Kd.R_lt (by (with_reducible repeat (first | apply Kd.R_alloc | apply Kd.R_drewN | apply Kd.R_drew)); exact (Kd.R_mono (Kd.R_far (p := ⟨gb210, 1, none⟩) (Kd.R_far (p := ⟨gb210, 0, none⟩) (Kd.R_types HO199.out BK210.out (by decide)) (fun _ hk => hk.2) (.slice Ao22 t203.length co22)) (fun _ hk => hk.2) (.slice Ao25 t206.length co25)) (fun _ h_ => h_.1))))) (Kd.R_lt (by (with_reducible repeat (first | apply Kd.R_alloc | apply Kd.R_drewN | apply Kd.R_drew)); exact (Kd.R_mono (Kd.R_far (p := ⟨gb210, 1, none⟩) (Kd.R_far (p := ⟨gb210, 0, none⟩) (Kd.R_types HO205.out BK210.out (by decide)) (fun _ hk => hk.2) (.slice Ao22 t203.length co22)) (fun _ hk => hk.2) (.slice Ao25 t206.length co25)) (fun _ h_ => h_.1))))) (below_size (xs HB.out))); replace HO199 := Aside0.mk (Kd.R_elder' (by (with_reducible repeat (first | apply Kd.R_alloc | apply Kd.R_drewN | apply Kd.R_drew)); exact (Kd.R_mono (Kd.R_far (p := ⟨gb210, 1, none⟩) (Kd.R_far (p := ⟨gb210, 0, none⟩) (Kd.R_types HO199.out BK210.out (by decide)) (fun _ hk => hk.2) (.slice Ao22 t203.length co22)) (fun _ hk => hk.2) (.slice Ao25 t206.length co25)) (fun _ h_ => h_.1))) (Kd.R_base ho0) hb); replace HO205 := Aside0.mk (Kd.R_elder' (by (with_reducible repeat (first | apply Kd.R_alloc | apply Kd.R_drewN | apply Kd.R_drew)); exact (Kd.R_mono (Kd.R_far (p := ⟨gb210, 1, none⟩) (Kd.R_far (p := ⟨gb210, 0, none⟩) (Kd.R_types HO205.out BK210.out (by decide)) (fun _ hk => hk.2) (.slice Ao22 t203.length co22)) (fun _ hk => hk.2) (.slice Ao25 t206.length co25)) (fun _ h_ => h_.1))) (Kd.R_base ho0) hb); have HO216 := Aside0.mk (Kd.R_lower (Kd.R_new' (Kd.R_new' ho1 (Kd.R_lt (by (with_reducible repeat (first | apply Kd.R_alloc | apply Kd.R_drewN | apply Kd.R_drew)); exact (Kd.R_mono (Kd.R_far (p := ⟨gb210, 1, none⟩) (Kd.R_far (p := ⟨gb210, 0, none⟩) (Kd.R_types HO202.out BK210.out (by decide)) (fun _ hk => hk.2) (.slice Ao22 t203.length co22)) (fun _ hk => hk.2) (.slice Ao25 t206.length co25)) (fun _ h_ => h_.1))))) (Kd.R_lt (by (with_reducible repeat (first | apply Kd.R_alloc | apply Kd.R_drewN | apply Kd.R_drew)); exact (Kd.R_mono (Kd.R_far (p := ⟨gb210, 1, none⟩) (Kd.R_far (p := ⟨gb210, 0, none⟩) (Kd.R_types HO208.out BK210.out (by decide)) (fun _ hk => hk.2) (.slice Ao22 t203.length co22)) (fun _ hk => hk.2) (.slice Ao25 t206.length co25)) (fun _ h_ => h_.1))))) (below_size (xs HB.out))); replace HO202 := Aside0.mk (Kd.R_elder' (by (with_reducible repeat (first | apply Kd.R_alloc | apply Kd.R_drewN | apply Kd.R_drew)); exact (Kd.R_mono (Kd.R_far (p := ⟨gb210, 1, none⟩) (Kd.R_far (p := ⟨gb210, 0, none⟩) (Kd.R_types HO202.out BK210.out (by decide)) (fun _ hk => hk.2) (.slice Ao22 t203.length co22)) (fun _ hk => hk.2) (.slice Ao25 t206.length co25)) (fun _ h_ => h_.1))) (Kd.R_base ho1) hb); replace HO208 := Aside0.mk (Kd.R_elder' (by (with_reducible repeat (first | apply Kd.R_alloc | apply Kd.R_drewN | apply Kd.R_drew)); exact (Kd.R_mono (Kd.R_far (p := ⟨gb210, 1, none⟩) (Kd.R_far (p := ⟨gb210, 0, none⟩) (Kd.R_types HO208.out BK210.out (by decide)) (fun _ hk => hk.2) (.slice Ao22 t203.length co22)) (fun _ hk => hk.2) (.slice Ao25 t206.length co25)) (fun _ h_ => h_.1))) (Kd.R_base ho1) hb); replace BK195 := Aside0.mk (blk_below (g := gb195) (o := .cells #[.slice A0_0 l0_0.length c0_0, .slice A0_1 l0_1.length c0_1] 25 (0, 0)) (xff NB195_210.out NB195_210.out BK195.out) hb); replace BK210 := Aside0.mk (blk_below (g := gb210) (o := .cells #[.slice Ao22 t203.length co22, .slice Ao25 t206.length co25] 29 (0, 0)) (by (with_reducible repeat (first | refine blk_drewN ?_ _ | refine blk_drew ?_ | refine blk_alloc ?_ _)); refine blk_put (cs := #[.slice Ao22 t203.length co22, .slice none 0 0]) ?_ 1 _ rfl; (with_reducible repeat (first | refine blk_drewN ?_ _ | refine blk_drew ?_ | refine blk_alloc ?_ _)); refine blk_put (cs := #[.slice none 0 0, .slice none 0 0]) ?_ 0 _ rfl; (with_reducible repeat (first | refine blk_drewN ?_ _ | refine blk_drew ?_ | refine blk_alloc ?_ _)); exact BK210.out) hb); replace HB := xp HB hb; (try clear hb); (try clear hb2); (try clear hk); (try clear hi); (try clear ho0); (try clear ho1)) | ((with_reducible refine gate_dst (N := 8) rfl ?_); refine box_event ?hg (N := 8) ?hd (cs := #[.slice none 0 0, .slice none 0 0]) (t := 29) ?hr ?_; (case hd => rfl); (case hg => rfl); (case hr => first | (go_simp; done) | (go_simp; rfl)); intro gb217 hg w28 hbox hb; replace HO199 := xq HO199 hb; replace HO202 := xq HO202 hb; replace HO205 := xq HO205 hb; replace HO208 := xq HO208 hb; replace HO213 := xq HO213 hb; replace HO216 := xq HO216 hb; have BK217 := Aside0.mk (hbox); have GW217 := xg HB hg; have GE217 := xg HB hg; replace HB := xp HB hb; have NB195_217 := xl BK195 hg; have NB217_195 := xh BK195 hg; replace BK195 := xk BK195 hb; have NB210_217 := xl BK210 hg; have NB217_210 := xh BK210 hg; replace BK210 := xk BK210 hb; clear hb hbox hg; obtain ⟨Ao29, co29, eo29⟩ := Kd.R_slice HO213.out; subst eo29; have hnb30 := NB217_195.out; have hnc30 := NB195_217.out; have hnb31 := NB217_210.out; have hnc31 := NB210_217.out; have hcz32_0 : w28.cell? ⟨gb217, 0, none⟩ = some (.slice none 0 0) := (blk_cell BK217.out 0).trans rfl; have hcz32_1 : w28.cell? ⟨gb217, 1, none⟩ = some (.slice none 0 0) := (blk_cell BK217.out 1).trans rfl; have hfz32_0 := blk_frozen BK217.out 0; have hfz32_1 := blk_frozen BK217.out 1; obtain ⟨Ao33, co33, eo33⟩ := Kd.R_slice HO216.out; subst eo33) | ((with_reducible refine gate_callee (f := 28) rfl ?_); refine goesL_ (some 33) rfl rfl Try.func28 (by kernel_rfl) rfl #[.agg #[.slice Ao29 t211.length co29, .slice Ao33 t214.length co33], .bool a1] rfl (by (try simp only [List.map_toArray, List.map_cons, List.map_nil]); first | done | rfl | (simp only [List.length_drop, List.length_take]; rfl)) ?_; (with_reducible refine (impl_RunShip.calls _ _ t211 _ _ t214 a1 t218 t221 t224 _ ?side1 ?side2 ?side3 ?side4 A11.out).mono ?_); (case side1 => refine (Kd.R_reads' (e := 3) (base := w.heap.size) (ok := fun k_ => ((True ∧ nS k_ Ao18 t197.length co18) ∧ nS k_ Ao22 t203.length co22)) (n := t211.length) (c := co29) ?_).2.2; exact (by (with_reducible repeat (first | apply Kd.R_alloc | apply Kd.R_drewN | apply Kd.R_drew)); exact (Kd.R_mono (Kd.R_far (p := ⟨gb217, 1, none⟩) (Kd.R_far (p := ⟨gb217, 0, none⟩) (Kd.R_types HO213.out BK217.out (by decide)) (fun _ hk => hk.2) (.slice Ao29 t211.length co29)) (fun _ hk => hk.2) (.slice Ao33 t214.length co33)) (fun _ h_ => h_.1)))); (case side2 => exact (Kd.R_reads' HO213.out).2.1); (case side3 => refine (Kd.R_reads' (e := 4) (base := w.heap.size) (ok := fun k_ => ((True ∧ nS k_ Ao19 t200.length co19) ∧ nS k_ Ao25 t206.length co25)) (n := t214.length) (c := co33) ?_).2.2; exact (by (with_reducible repeat (first | apply Kd.R_alloc | apply Kd.R_drewN | apply Kd.R_drew)); exact (Kd.R_mono (Kd.R_far (p := ⟨gb217, 1, none⟩) (Kd.R_far (p := ⟨gb217, 0, none⟩) (Kd.R_types HO216.out BK217.out (by decide)) (fun _ hk => hk.2) (.slice Ao29 t211.length co29)) (fun _ hk => hk.2) (.slice Ao33 t214.length co33)) (fun _ h_ => h_.1)))); (case side4 => exact (Kd.R_reads' HO216.out).2.1); rintro e w34 ⟨v219, v222, rfl, ho0, ho1, hb⟩; refine ⟨_, rfl, ?_⟩; have HO220 := Aside0.mk (Kd.R_lower (Kd.R_new' (Kd.R_new' (Kd.R_new' ho0 (Kd.R_lt (by (with_reducible repeat (first | apply Kd.R_alloc | apply Kd.R_drewN | apply Kd.R_drew)); exact (Kd.R_mono (Kd.R_far (p := ⟨gb217, 1, none⟩) (Kd.R_far (p := ⟨gb217, 0, none⟩) (Kd.R_types HO199.out BK217.out (by decide)) (fun _ hk => hk.2) (.slice Ao29 t211.length co29)) (fun _ hk => hk.2) (.slice Ao33 t214.length co33)) (fun _ h_ => h_.1))))) (Kd.R_lt (by (with_reducible repeat (first | apply Kd.R_alloc | apply Kd.R_drewN | apply Kd.R_drew)); exact (Kd.R_mono (Kd.R_far (p := ⟨gb217, 1, none⟩) (Kd.R_far (p := ⟨gb217, 0, none⟩) (Kd.R_types HO205.out BK217.out (by decide)) (fun _ hk => hk.2) (.slice Ao29 t211.length co29)) (fun _ hk => hk.2) (.slice Ao33 t214.length co33)) (fun _ h_ => h_.1))))) (Kd.R_lt (by (with_reducible repeat (first | apply Kd.R_alloc | apply Kd.R_drewN | apply Kd.R_drew)); exact (Kd.R_mono (Kd.R_far (p := ⟨gb217, 1, none⟩) (Kd.R_far (p := ⟨gb217, 0, none⟩) (Kd.R_types HO213.out BK217.out (by decide)) (fun _ hk => hk.2) (.slice Ao29 t211.length co29)) (fun _ hk => hk.2) (.slice Ao33 t214.length co33)) (fun _ h_ => h_.1))))) (below_size (xs HB.out))); replace HO199 := Aside0.mk (Kd.R_elder' (by (with_reducible repeat (first | apply Kd.R_alloc | apply Kd.R_drewN | apply Kd.R_drew)); exact (Kd.R_mono (Kd.R_far (p := ⟨gb217, 1, none⟩) (Kd.R_far (p := ⟨gb217, 0, none⟩) (Kd.R_types HO199.out BK217.out (by decide)) (fun _ hk => hk.2) (.slice Ao29 t211.length co29)) (fun _ hk => hk.2) (.slice Ao33 t214.length co33)) (fun _ h_ => h_.1))) (Kd.R_base ho0) hb); replace HO205 := Aside0.mk (Kd.R_elder' (by (with_reducible repeat (first | apply Kd.R_alloc | apply Kd.R_drewN | apply Kd.R_drew)); exact (Kd.R_mono (Kd.R_far (p := ⟨gb217, 1, none⟩) (Kd.R_far (p := ⟨gb217, 0, none⟩) (Kd.R_types HO205.out BK217.out (by decide)) (fun _ hk => hk.2) (.slice Ao29 t211.length co29)) (fun _ hk => hk.2) (.slice Ao33 t214.length co33)) (fun _ h_ => h_.1))) (Kd.R_base ho0) hb); replace HO213 := Aside0.mk (Kd.R_elder' (by (with_reducible repeat (first | apply Kd.R_alloc | apply Kd.R_drewN | apply Kd.R_drew)); exact (Kd.R_mono (Kd.R_far (p := ⟨gb217, 1, none⟩) (Kd.R_far (p := ⟨gb217, 0, none⟩) (Kd.R_types HO213.out BK217.out (by decide)) (fun _ hk => hk.2) (.slice Ao29 t211.length co29)) (fun _ hk => hk.2) (.slice Ao33 t214.length co33)) (fun _ h_ => h_.1))) (Kd.R_base ho0) hb); have HO223 := Aside0.mk (Kd.R_lower (Kd.R_new' (Kd.R_new' (Kd.R_new' ho1 (Kd.R_lt (by (with_reducible repeat (first | apply Kd.R_alloc | apply Kd.R_drewN | apply Kd.R_drew)); exact (Kd.R_mono (Kd.R_far (p := ⟨gb217, 1, none⟩) (Kd.R_far (p := ⟨gb217, 0, none⟩) (Kd.R_types HO202.out BK217.out (by decide)) (fun _ hk => hk.2) (.slice Ao29 t211.length co29)) (fun _ hk => hk.2) (.slice Ao33 t214.length co33)) (fun _ h_ => h_.1))))) (Kd.R_lt (by (with_reducible repeat (first | apply Kd.R_alloc | apply Kd.R_drewN | apply Kd.R_drew)); exact (Kd.R_mono (Kd.R_far (p := ⟨gb217, 1, none⟩) (Kd.R_far (p := ⟨gb217, 0, none⟩) (Kd.R_types HO208.out BK217.out (by decide)) (fun _ hk => hk.2) (.slice Ao29 t211.length co29)) (fun _ hk => hk.2) (.slice Ao33 t214.length co33)) (fun _ h_ => h_.1))))) (Kd.R_lt (by (with_reducible repeat (first | apply Kd.R_alloc | apply Kd.R_drewN | apply Kd.R_drew)); exact (Kd.R_mono (Kd.R_far (p := ⟨gb217, 1, none⟩) (Kd.R_far (p := ⟨gb217, 0, none⟩) (Kd.R_types HO216.out BK217.out (by decide)) (fun _ hk => hk.2) (.slice Ao29 t211.length co29)) (fun _ hk => hk.2) (.slice Ao33 t214.length co33)) (fun _ h_ => h_.1))))) (below_size (xs HB.out))); replace HO202 := Aside0.mk (Kd.R_elder' (by (with_reducible repeat (first | apply Kd.R_alloc | apply Kd.R_drewN | apply Kd.R_drew)); exact (Kd.R_mono (Kd.R_far (p := ⟨gb217, 1, none⟩) (Kd.R_far (p := ⟨gb217, 0, none⟩) (Kd.R_types HO202.out BK217.out (by decide)) (fun _ hk => hk.2) (.slice Ao29 t211.length co29)) (fun _ hk => hk.2) (.slice Ao33 t214.length co33)) (fun _ h_ => h_.1))) (Kd.R_base ho1) hb); replace HO208 := Aside0.mk (Kd.R_elder' (by (with_reducible repeat (first | apply Kd.R_alloc | apply Kd.R_drewN | apply Kd.R_drew)); exact (Kd.R_mono (Kd.R_far (p := ⟨gb217, 1, none⟩) (Kd.R_far (p := ⟨gb217, 0, none⟩) (Kd.R_types HO208.out BK217.out (by decide)) (fun _ hk => hk.2) (.slice Ao29 t211.length co29)) (fun _ hk => hk.2) (.slice Ao33 t214.length co33)) (fun _ h_ => h_.1))) (Kd.R_base ho1) hb); replace HO216 := Aside0.mk (Kd.R_elder' (by (with_reducible repeat (first | apply Kd.R_alloc | apply Kd.R_drewN | apply Kd.R_drew)); exact (Kd.R_mono (Kd.R_far (p := ⟨gb217, 1, none⟩) (Kd.R_far (p := ⟨gb217, 0, none⟩) (Kd.R_types HO216.out BK217.out (by decide)) (fun _ hk => hk.2) (.slice Ao29 t211.length co29)) (fun _ hk => hk.2) (.slice Ao33 t214.length co33)) (fun _ h_ => h_.1))) (Kd.R_base ho1) hb); replace BK195 := Aside0.mk (blk_below (g := gb195) (o := .cells #[.slice A0_0 l0_0.length c0_0, .slice A0_1 l0_1.length c0_1] 25 (0, 0)) (xff NB195_217.out NB195_217.out BK195.out) hb); replace BK210 := Aside0.mk (blk_below (g := gb210) (o := .cells #[.slice Ao22 t203.length co22, .slice Ao25 t206.length co25] 29 (0, 0)) (xff NB210_217.out NB210_217.out BK210.out) hb); replace BK217 := Aside0.mk (blk_below (g := gb217) (o := .cells #[.slice Ao29 t211.length co29, .slice Ao33 t214.length co33] 29 (0, 0)) (by (with_reducible repeat (first | refine blk_drewN ?_ _ | refine blk_drew ?_ | refine blk_alloc ?_ _)); refine blk_put (cs := #[.slice Ao29 t211.length co29, .slice none 0 0]) ?_ 1 _ rfl; (with_reducible repeat (first | refine blk_drewN ?_ _ | refine blk_drew ?_ | refine blk_alloc ?_ _)); refine blk_put (cs := #[.slice none 0 0, .slice none 0 0]) ?_ 0 _ rfl; (with_reducible repeat (first | refine blk_drewN ?_ _ | refine blk_drew ?_ | refine blk_alloc ?_ _)); exact BK217.out) hb); replace HB := xp HB hb; (try clear hb); (try clear hb2); (try clear hk); (try clear hi); (try clear ho0); (try clear ho1)) | ((with_reducible refine gate_dst (N := 9) rfl ?_); refine box_event ?hg (N := 9) ?hd (cs := #[.slice none 0 0, .slice none 0 0]) (t := 29) ?hr ?_; (case hd => rfl); (case hg => rfl); (case hr => first | (go_simp; done) | (go_simp; rfl)); intro gb225 hg w35 hbox hb; replace HO199 := xq HO199 hb; replace HO202 := xq HO202 hb; replace HO205 := xq HO205 hb; replace HO208 := xq HO208 hb; replace HO213 := xq HO213 hb; replace HO216 := xq HO216 hb; replace HO220 := xq HO220 hb; replace HO223 := xq HO223 hb; have BK225 := Aside0.mk (hbox); have GW225 := xg HB hg; have GE225 := xg HB hg; replace HB := xp HB hb; have NB195_225 := xl BK195 hg; have NB225_195 := xh BK195 hg; replace BK195 := xk BK195 hb; have NB210_225 := xl BK210 hg; have NB225_210 := xh BK210 hg; replace BK210 := xk BK210 hb; have NB217_225 := xl BK217 hg; have NB225_217 := xh BK217 hg; replace BK217 := xk BK217 hb; clear hb hbox hg; obtain ⟨Ao36, co36, eo36⟩ := Kd.R_slice HO220.out; subst eo36; have hnb37 := NB225_195.out; have hnc37 := NB195_225.out; have hnb38 := NB225_210.out; have hnc38 := NB210_225.out; have hnb39 := NB225_217.out; have hnc39 := NB217_225.out; have hcz40_0 : w35.cell? ⟨gb225, 0, none⟩ = some (.slice none 0 0) := (blk_cell BK225.out 0).trans rfl; have hcz40_1 : w35.cell? ⟨gb225, 1, none⟩ = some (.slice none 0 0) := (blk_cell BK225.out 1).trans rfl; have hfz40_0 := blk_frozen BK225.out 0; have hfz40_1 := blk_frozen BK225.out 1; obtain ⟨Ao41, co41, eo41⟩ := Kd.R_slice HO223.out; subst eo41))
  (try simp only [Act.put, List.setIfInBounds_toArray, List.set_cons_zero, List.set_cons_succ])
  go_cut [44] (fun v44 wc => ∃ (kq : Nat) (x44_11 : Bool), v44 = .bool x44_11 ∧ Aside0 (laws_FnExactRunShip.j0 kq a1 t209 t224 x44_11 l0_0 l0_1 t203 t206 t211 t214 t218 t221 = some true) ∧ Aside0 (kq ≤ k) ∧ Aside0 (Kd.R (Kd.int .i64) 3 wc w.heap.size (fun k_ => nS k_ Ao29 t211.length co29 ∧ nS k_ Ao36 t218.length co36) (.slice Ao22 t203.length co22) t203) ∧ Aside0 (Kd.R Kd.bool 4 wc w.heap.size (fun k_ => nS k_ Ao33 t214.length co33 ∧ nS k_ Ao41 t221.length co41) (.slice Ao25 t206.length co25) t206) ∧ Aside0 (Kd.R (Kd.int .i64) 3 wc w.heap.size (fun k_ => nS k_ Ao22 t203.length co22 ∧ nS k_ Ao36 t218.length co36) (.slice Ao29 t211.length co29) t211) ∧ Aside0 (Kd.R Kd.bool 4 wc w.heap.size (fun k_ => nS k_ Ao25 t206.length co25 ∧ nS k_ Ao41 t221.length co41) (.slice Ao33 t214.length co33) t214) ∧ Aside0 (Kd.R (Kd.int .i64) 3 wc w.heap.size (fun k_ => nS k_ Ao22 t203.length co22 ∧ nS k_ Ao29 t211.length co29) (.slice Ao36 t218.length co36) t218) ∧ Aside0 (Kd.R Kd.bool 4 wc w.heap.size (fun k_ => nS k_ Ao25 t206.length co25 ∧ nS k_ Ao33 t214.length co33) (.slice Ao41 t221.length co41) t221) ∧ Aside0 (wc.heap[gb195]? = some (.cells #[(.slice A0_0 l0_0.length c0_0), (.slice A0_1 l0_1.length c0_1)] 25 (0, 0))) ∧ Aside0 (wc.heap[gb210]? = some (.cells #[(.slice Ao22 t203.length co22), (.slice Ao25 t206.length co25)] 29 (0, 0))) ∧ Aside0 (wc.heap[gb217]? = some (.cells #[(.slice Ao29 t211.length co29), (.slice Ao33 t214.length co33)] 29 (0, 0))) ∧ Aside0 (wc.heap[gb225]? = some (.cells #[(.slice Ao36 t218.length co36), (.slice Ao41 t221.length co41)] 29 (0, 0))) ∧ Aside0 (Below w.heap.size w wc))
  case first =>
   have H := HC12.out
   clear HC12
   replace H := Option.bind_eq_some_iff.mp H
   obtain ⟨t226, A420, H⟩ := H
   replace H : (if t226 = true then (laws_FnExactRunShip.j0 k a1 t209 t224 (t224 != t209) l0_0 l0_1 t203 t206 t211 t214 t218 t221) else (laws_FnExactRunShip.j0 k a1 t209 t224 true l0_0 l0_1 t203 t206 t211 t214 t218 t221)) = some true := H
   have A42 := Aside0.mk A420
   clear A420
   by_cases c43 : t226 = true
   ·subst c43
    have H1 : (laws_FnExactRunShip.j0 k a1 t209 t224 (t224 != t209) l0_0 l0_1 t203 t206 t211 t214 t218 t221) = some true := by first | (rw [if_pos rfl] at H; exact H) | rfl
    clear H
    have H := H1
    clear H1
    have H' := Aside0.mk H
    clear H
    have hnb44 := NB225_195.out
    have hnc44 := NB195_225.out
    have hnb45 := NB225_210.out
    have hnc45 := NB210_225.out
    have hnb46 := NB225_217.out
    have hnc46 := NB217_225.out
    have hcz47_0 : w35.cell? ⟨gb225, 0, none⟩ = some (.slice none 0 0) := (blk_cell BK225.out 0).trans rfl
    have hcz47_1 : w35.cell? ⟨gb225, 1, none⟩ = some (.slice none 0 0) := (blk_cell BK225.out 1).trans rfl
    have hfz47_0 := blk_frozen BK225.out 0
    have hfz47_1 := blk_frozen BK225.out 1
    have hnb48 := NB210_195.out
    have hnc48 := NB195_210.out
    have hnb49 := NB210_217.out
    have hnc49 := NB217_210.out
    have hcz50_0 : w35.cell? ⟨gb210, 0, none⟩ = some (.slice Ao22 t203.length co22) := (blk_cell BK210.out 0).trans rfl
    have hcz50_1 : w35.cell? ⟨gb210, 1, none⟩ = some (.slice Ao25 t206.length co25) := (blk_cell BK210.out 1).trans rfl
    have hfz50_0 := blk_frozen BK210.out 0
    have hfz50_1 := blk_frozen BK210.out 1
    go_wp2_with (first | ((with_reducible refine gate_callee (f := 14) rfl ?_); refine goesL_ (some 38) rfl rfl Try.func14 (by kernel_rfl) rfl #[.agg #[.slice Ao36 t218.length co36, .slice Ao41 t221.length co41], .agg #[.slice Ao22 t203.length co22, .slice Ao25 t206.length co25]] rfl (by (try simp only [List.map_toArray, List.map_cons, List.map_nil]); first | done | rfl | (simp only [List.length_drop, List.length_take]; rfl)) ?_; (with_reducible refine (laws_eqFlight.calls k _ _ t218 _ _ t221 _ _ t203 _ _ t206 true _ ?side1 ?side2 ?side3 ?side4 ?side5 ?side6 ?side7 ?side8 A42.out).mono ?_); (case side1 => refine (Kd.R_reads' (e := 3) (base := w.heap.size) (ok := fun k_ => (((True ∧ nS k_ Ao18 t197.length co18) ∧ nS k_ Ao22 t203.length co22) ∧ nS k_ Ao29 t211.length co29)) (n := t218.length) (c := co36) ?_).2.2; exact (by (with_reducible repeat (first | apply Kd.R_alloc | apply Kd.R_drewN | apply Kd.R_drew)); exact (Kd.R_mono (Kd.R_far (p := ⟨gb225, 1, none⟩) (Kd.R_far (p := ⟨gb225, 0, none⟩) (Kd.R_types HO220.out BK225.out (by decide)) (fun _ hk => hk.2) (.slice Ao36 t218.length co36)) (fun _ hk => hk.2) (.slice Ao41 t221.length co41)) (fun _ h_ => h_.1)))); (case side2 => exact (Kd.R_reads' HO220.out).2.1); (case side3 => refine (Kd.R_reads' (e := 4) (base := w.heap.size) (ok := fun k_ => (((True ∧ nS k_ Ao19 t200.length co19) ∧ nS k_ Ao25 t206.length co25) ∧ nS k_ Ao33 t214.length co33)) (n := t221.length) (c := co41) ?_).2.2; exact (by (with_reducible repeat (first | apply Kd.R_alloc | apply Kd.R_drewN | apply Kd.R_drew)); exact (Kd.R_mono (Kd.R_far (p := ⟨gb225, 1, none⟩) (Kd.R_far (p := ⟨gb225, 0, none⟩) (Kd.R_types HO223.out BK225.out (by decide)) (fun _ hk => hk.2) (.slice Ao36 t218.length co36)) (fun _ hk => hk.2) (.slice Ao41 t221.length co41)) (fun _ h_ => h_.1)))); (case side4 => exact (Kd.R_reads' HO223.out).2.1); (case side5 => refine (Kd.R_reads' (e := 3) (base := w.heap.size) (ok := fun k_ => (((True ∧ nS k_ Ao18 t197.length co18) ∧ nS k_ Ao29 t211.length co29) ∧ nS k_ Ao36 t218.length co36)) (n := t203.length) (c := co22) ?_).2.2; exact (by (with_reducible repeat (first | apply Kd.R_alloc | apply Kd.R_drewN | apply Kd.R_drew)); exact (Kd.R_mono (Kd.R_far (p := ⟨gb225, 1, none⟩) (Kd.R_far (p := ⟨gb225, 0, none⟩) (Kd.R_types HO205.out BK225.out (by decide)) (fun _ hk => hk.2) (.slice Ao36 t218.length co36)) (fun _ hk => hk.2) (.slice Ao41 t221.length co41)) (fun _ h_ => h_.1)))); (case side6 => exact (Kd.R_reads' HO205.out).2.1); (case side7 => refine (Kd.R_reads' (e := 4) (base := w.heap.size) (ok := fun k_ => (((True ∧ nS k_ Ao19 t200.length co19) ∧ nS k_ Ao33 t214.length co33) ∧ nS k_ Ao41 t221.length co41)) (n := t206.length) (c := co25) ?_).2.2; exact (by (with_reducible repeat (first | apply Kd.R_alloc | apply Kd.R_drewN | apply Kd.R_drew)); exact (Kd.R_mono (Kd.R_far (p := ⟨gb225, 1, none⟩) (Kd.R_far (p := ⟨gb225, 0, none⟩) (Kd.R_types HO208.out BK225.out (by decide)) (fun _ hk => hk.2) (.slice Ao36 t218.length co36)) (fun _ hk => hk.2) (.slice Ao41 t221.length co41)) (fun _ h_ => h_.1)))); (case side8 => exact (Kd.R_reads' HO208.out).2.1); rintro e w51 ⟨rfl, hb⟩; refine ⟨_, rfl, ?_⟩; replace HO199 := Aside0.mk (Kd.R_below (by (with_reducible repeat (first | apply Kd.R_alloc | apply Kd.R_drewN | apply Kd.R_drew)); exact (Kd.R_mono (Kd.R_far (p := ⟨gb225, 1, none⟩) (Kd.R_far (p := ⟨gb225, 0, none⟩) (Kd.R_types HO199.out BK225.out (by decide)) (fun _ hk => hk.2) (.slice Ao36 t218.length co36)) (fun _ hk => hk.2) (.slice Ao41 t221.length co41)) (fun _ h_ => h_.1))) hb); replace HO202 := Aside0.mk (Kd.R_below (by (with_reducible repeat (first | apply Kd.R_alloc | apply Kd.R_drewN | apply Kd.R_drew)); exact (Kd.R_mono (Kd.R_far (p := ⟨gb225, 1, none⟩) (Kd.R_far (p := ⟨gb225, 0, none⟩) (Kd.R_types HO202.out BK225.out (by decide)) (fun _ hk => hk.2) (.slice Ao36 t218.length co36)) (fun _ hk => hk.2) (.slice Ao41 t221.length co41)) (fun _ h_ => h_.1))) hb); replace HO205 := Aside0.mk (Kd.R_below (by (with_reducible repeat (first | apply Kd.R_alloc | apply Kd.R_drewN | apply Kd.R_drew)); exact (Kd.R_mono (Kd.R_far (p := ⟨gb225, 1, none⟩) (Kd.R_far (p := ⟨gb225, 0, none⟩) (Kd.R_types HO205.out BK225.out (by decide)) (fun _ hk => hk.2) (.slice Ao36 t218.length co36)) (fun _ hk => hk.2) (.slice Ao41 t221.length co41)) (fun _ h_ => h_.1))) hb); replace HO208 := Aside0.mk (Kd.R_below (by (with_reducible repeat (first | apply Kd.R_alloc | apply Kd.R_drewN | apply Kd.R_drew)); exact (Kd.R_mono (Kd.R_far (p := ⟨gb225, 1, none⟩) (Kd.R_far (p := ⟨gb225, 0, none⟩) (Kd.R_types HO208.out BK225.out (by decide)) (fun _ hk => hk.2) (.slice Ao36 t218.length co36)) (fun _ hk => hk.2) (.slice Ao41 t221.length co41)) (fun _ h_ => h_.1))) hb); replace HO213 := Aside0.mk (Kd.R_below (by (with_reducible repeat (first | apply Kd.R_alloc | apply Kd.R_drewN | apply Kd.R_drew)); exact (Kd.R_mono (Kd.R_far (p := ⟨gb225, 1, none⟩) (Kd.R_far (p := ⟨gb225, 0, none⟩) (Kd.R_types HO213.out BK225.out (by decide)) (fun _ hk => hk.2) (.slice Ao36 t218.length co36)) (fun _ hk => hk.2) (.slice Ao41 t221.length co41)) (fun _ h_ => h_.1))) hb); replace HO216 := Aside0.mk (Kd.R_below (by (with_reducible repeat (first | apply Kd.R_alloc | apply Kd.R_drewN | apply Kd.R_drew)); exact (Kd.R_mono (Kd.R_far (p := ⟨gb225, 1, none⟩) (Kd.R_far (p := ⟨gb225, 0, none⟩) (Kd.R_types HO216.out BK225.out (by decide)) (fun _ hk => hk.2) (.slice Ao36 t218.length co36)) (fun _ hk => hk.2) (.slice Ao41 t221.length co41)) (fun _ h_ => h_.1))) hb); replace HO220 := Aside0.mk (Kd.R_below (by (with_reducible repeat (first | apply Kd.R_alloc | apply Kd.R_drewN | apply Kd.R_drew)); exact (Kd.R_mono (Kd.R_far (p := ⟨gb225, 1, none⟩) (Kd.R_far (p := ⟨gb225, 0, none⟩) (Kd.R_types HO220.out BK225.out (by decide)) (fun _ hk => hk.2) (.slice Ao36 t218.length co36)) (fun _ hk => hk.2) (.slice Ao41 t221.length co41)) (fun _ h_ => h_.1))) hb); replace HO223 := Aside0.mk (Kd.R_below (by (with_reducible repeat (first | apply Kd.R_alloc | apply Kd.R_drewN | apply Kd.R_drew)); exact (Kd.R_mono (Kd.R_far (p := ⟨gb225, 1, none⟩) (Kd.R_far (p := ⟨gb225, 0, none⟩) (Kd.R_types HO223.out BK225.out (by decide)) (fun _ hk => hk.2) (.slice Ao36 t218.length co36)) (fun _ hk => hk.2) (.slice Ao41 t221.length co41)) (fun _ h_ => h_.1))) hb); replace BK195 := Aside0.mk (blk_below (g := gb195) (o := .cells #[.slice A0_0 l0_0.length c0_0, .slice A0_1 l0_1.length c0_1] 25 (0, 0)) (xff NB195_225.out NB195_225.out BK195.out) hb); replace BK210 := Aside0.mk (blk_below (g := gb210) (o := .cells #[.slice Ao22 t203.length co22, .slice Ao25 t206.length co25] 29 (0, 0)) (xff NB210_225.out NB210_225.out BK210.out) hb); replace BK217 := Aside0.mk (blk_below (g := gb217) (o := .cells #[.slice Ao29 t211.length co29, .slice Ao33 t214.length co33] 29 (0, 0)) (xff NB217_225.out NB217_225.out BK217.out) hb); replace BK225 := Aside0.mk (blk_below (g := gb225) (o := .cells #[.slice Ao36 t218.length co36, .slice Ao41 t221.length co41] 29 (0, 0)) (by (with_reducible repeat (first | refine blk_drewN ?_ _ | refine blk_drew ?_ | refine blk_alloc ?_ _)); refine blk_put (cs := #[.slice Ao36 t218.length co36, .slice none 0 0]) ?_ 1 _ rfl; (with_reducible repeat (first | refine blk_drewN ?_ _ | refine blk_drew ?_ | refine blk_alloc ?_ _)); refine blk_put (cs := #[.slice none 0 0, .slice none 0 0]) ?_ 0 _ rfl; (with_reducible repeat (first | refine blk_drewN ?_ _ | refine blk_drew ?_ | refine blk_alloc ?_ _)); exact BK225.out) hb); replace HB := xp HB hb; (try clear hb); (try clear hb2); (try clear hk); (try clear hi)))
    go_meet
    case rel => exact ⟨_, ((t224 != t209)), (by first | rfl | (simp; done) | (simp [*]; done)), H', ⟨by first | omega | exact Nat.le_refl _⟩, ⟨xm HO205 (fun _ hk => ⟨hk.1.2, hk.2⟩)⟩, ⟨xm HO208 (fun _ hk => ⟨hk.1.2, hk.2⟩)⟩, ⟨xm HO213 (fun _ hk => ⟨hk.1.2, hk.2⟩)⟩, ⟨xm HO216 (fun _ hk => ⟨hk.1.2, hk.2⟩)⟩, ⟨xm HO220 (fun _ hk => ⟨hk.1.2, hk.2⟩)⟩, ⟨xm HO223 (fun _ hk => ⟨hk.1.2, hk.2⟩)⟩, ⟨xb BK195.out⟩, ⟨xb BK210.out⟩, ⟨xb BK217.out⟩, ⟨xb BK225.out⟩, ⟨xs HB.out⟩⟩
   ·replace c43 := Bool.eq_false_iff.mpr c43
    subst c43
    have H1 : (laws_FnExactRunShip.j0 k a1 t209 t224 true l0_0 l0_1 t203 t206 t211 t214 t218 t221) = some true := by first | (rw [if_neg (show ¬ (false = true) by decide)] at H; exact H) | rfl
    clear H
    have H := H1
    clear H1
    have H' := Aside0.mk H
    clear H
    have hnb52 := NB225_195.out
    have hnc52 := NB195_225.out
    have hnb53 := NB225_210.out
    have hnc53 := NB210_225.out
    have hnb54 := NB225_217.out
    have hnc54 := NB217_225.out
    have hcz55_0 : w35.cell? ⟨gb225, 0, none⟩ = some (.slice none 0 0) := (blk_cell BK225.out 0).trans rfl
    have hcz55_1 : w35.cell? ⟨gb225, 1, none⟩ = some (.slice none 0 0) := (blk_cell BK225.out 1).trans rfl
    have hfz55_0 := blk_frozen BK225.out 0
    have hfz55_1 := blk_frozen BK225.out 1
    have hnb56 := NB210_195.out
    have hnc56 := NB195_210.out
    have hnb57 := NB210_217.out
    have hnc57 := NB217_210.out
    have hcz58_0 : w35.cell? ⟨gb210, 0, none⟩ = some (.slice Ao22 t203.length co22) := (blk_cell BK210.out 0).trans rfl
    have hcz58_1 : w35.cell? ⟨gb210, 1, none⟩ = some (.slice Ao25 t206.length co25) := (blk_cell BK210.out 1).trans rfl
    have hfz58_0 := blk_frozen BK210.out 0
    have hfz58_1 := blk_frozen BK210.out 1
    go_wp2_with (first | ((with_reducible refine gate_callee (f := 14) rfl ?_); refine goesL_ (some 38) rfl rfl Try.func14 (by kernel_rfl) rfl #[.agg #[.slice Ao36 t218.length co36, .slice Ao41 t221.length co41], .agg #[.slice Ao22 t203.length co22, .slice Ao25 t206.length co25]] rfl (by (try simp only [List.map_toArray, List.map_cons, List.map_nil]); first | done | rfl | (simp only [List.length_drop, List.length_take]; rfl)) ?_; (with_reducible refine (laws_eqFlight.calls k _ _ t218 _ _ t221 _ _ t203 _ _ t206 false _ ?side1 ?side2 ?side3 ?side4 ?side5 ?side6 ?side7 ?side8 A42.out).mono ?_); (case side1 => refine (Kd.R_reads' (e := 3) (base := w.heap.size) (ok := fun k_ => (((True ∧ nS k_ Ao18 t197.length co18) ∧ nS k_ Ao22 t203.length co22) ∧ nS k_ Ao29 t211.length co29)) (n := t218.length) (c := co36) ?_).2.2; exact (by (with_reducible repeat (first | apply Kd.R_alloc | apply Kd.R_drewN | apply Kd.R_drew)); exact (Kd.R_mono (Kd.R_far (p := ⟨gb225, 1, none⟩) (Kd.R_far (p := ⟨gb225, 0, none⟩) (Kd.R_types HO220.out BK225.out (by decide)) (fun _ hk => hk.2) (.slice Ao36 t218.length co36)) (fun _ hk => hk.2) (.slice Ao41 t221.length co41)) (fun _ h_ => h_.1)))); (case side2 => exact (Kd.R_reads' HO220.out).2.1); (case side3 => refine (Kd.R_reads' (e := 4) (base := w.heap.size) (ok := fun k_ => (((True ∧ nS k_ Ao19 t200.length co19) ∧ nS k_ Ao25 t206.length co25) ∧ nS k_ Ao33 t214.length co33)) (n := t221.length) (c := co41) ?_).2.2; exact (by (with_reducible repeat (first | apply Kd.R_alloc | apply Kd.R_drewN | apply Kd.R_drew)); exact (Kd.R_mono (Kd.R_far (p := ⟨gb225, 1, none⟩) (Kd.R_far (p := ⟨gb225, 0, none⟩) (Kd.R_types HO223.out BK225.out (by decide)) (fun _ hk => hk.2) (.slice Ao36 t218.length co36)) (fun _ hk => hk.2) (.slice Ao41 t221.length co41)) (fun _ h_ => h_.1)))); (case side4 => exact (Kd.R_reads' HO223.out).2.1); (case side5 => refine (Kd.R_reads' (e := 3) (base := w.heap.size) (ok := fun k_ => (((True ∧ nS k_ Ao18 t197.length co18) ∧ nS k_ Ao29 t211.length co29) ∧ nS k_ Ao36 t218.length co36)) (n := t203.length) (c := co22) ?_).2.2; exact (by (with_reducible repeat (first | apply Kd.R_alloc | apply Kd.R_drewN | apply Kd.R_drew)); exact (Kd.R_mono (Kd.R_far (p := ⟨gb225, 1, none⟩) (Kd.R_far (p := ⟨gb225, 0, none⟩) (Kd.R_types HO205.out BK225.out (by decide)) (fun _ hk => hk.2) (.slice Ao36 t218.length co36)) (fun _ hk => hk.2) (.slice Ao41 t221.length co41)) (fun _ h_ => h_.1)))); (case side6 => exact (Kd.R_reads' HO205.out).2.1); (case side7 => refine (Kd.R_reads' (e := 4) (base := w.heap.size) (ok := fun k_ => (((True ∧ nS k_ Ao19 t200.length co19) ∧ nS k_ Ao33 t214.length co33) ∧ nS k_ Ao41 t221.length co41)) (n := t206.length) (c := co25) ?_).2.2; exact (by (with_reducible repeat (first | apply Kd.R_alloc | apply Kd.R_drewN | apply Kd.R_drew)); exact (Kd.R_mono (Kd.R_far (p := ⟨gb225, 1, none⟩) (Kd.R_far (p := ⟨gb225, 0, none⟩) (Kd.R_types HO208.out BK225.out (by decide)) (fun _ hk => hk.2) (.slice Ao36 t218.length co36)) (fun _ hk => hk.2) (.slice Ao41 t221.length co41)) (fun _ h_ => h_.1)))); (case side8 => exact (Kd.R_reads' HO208.out).2.1); rintro e w59 ⟨rfl, hb⟩; refine ⟨_, rfl, ?_⟩; replace HO199 := Aside0.mk (Kd.R_below (by (with_reducible repeat (first | apply Kd.R_alloc | apply Kd.R_drewN | apply Kd.R_drew)); exact (Kd.R_mono (Kd.R_far (p := ⟨gb225, 1, none⟩) (Kd.R_far (p := ⟨gb225, 0, none⟩) (Kd.R_types HO199.out BK225.out (by decide)) (fun _ hk => hk.2) (.slice Ao36 t218.length co36)) (fun _ hk => hk.2) (.slice Ao41 t221.length co41)) (fun _ h_ => h_.1))) hb); replace HO202 := Aside0.mk (Kd.R_below (by (with_reducible repeat (first | apply Kd.R_alloc | apply Kd.R_drewN | apply Kd.R_drew)); exact (Kd.R_mono (Kd.R_far (p := ⟨gb225, 1, none⟩) (Kd.R_far (p := ⟨gb225, 0, none⟩) (Kd.R_types HO202.out BK225.out (by decide)) (fun _ hk => hk.2) (.slice Ao36 t218.length co36)) (fun _ hk => hk.2) (.slice Ao41 t221.length co41)) (fun _ h_ => h_.1))) hb); replace HO205 := Aside0.mk (Kd.R_below (by (with_reducible repeat (first | apply Kd.R_alloc | apply Kd.R_drewN | apply Kd.R_drew)); exact (Kd.R_mono (Kd.R_far (p := ⟨gb225, 1, none⟩) (Kd.R_far (p := ⟨gb225, 0, none⟩) (Kd.R_types HO205.out BK225.out (by decide)) (fun _ hk => hk.2) (.slice Ao36 t218.length co36)) (fun _ hk => hk.2) (.slice Ao41 t221.length co41)) (fun _ h_ => h_.1))) hb); replace HO208 := Aside0.mk (Kd.R_below (by (with_reducible repeat (first | apply Kd.R_alloc | apply Kd.R_drewN | apply Kd.R_drew)); exact (Kd.R_mono (Kd.R_far (p := ⟨gb225, 1, none⟩) (Kd.R_far (p := ⟨gb225, 0, none⟩) (Kd.R_types HO208.out BK225.out (by decide)) (fun _ hk => hk.2) (.slice Ao36 t218.length co36)) (fun _ hk => hk.2) (.slice Ao41 t221.length co41)) (fun _ h_ => h_.1))) hb); replace HO213 := Aside0.mk (Kd.R_below (by (with_reducible repeat (first | apply Kd.R_alloc | apply Kd.R_drewN | apply Kd.R_drew)); exact (Kd.R_mono (Kd.R_far (p := ⟨gb225, 1, none⟩) (Kd.R_far (p := ⟨gb225, 0, none⟩) (Kd.R_types HO213.out BK225.out (by decide)) (fun _ hk => hk.2) (.slice Ao36 t218.length co36)) (fun _ hk => hk.2) (.slice Ao41 t221.length co41)) (fun _ h_ => h_.1))) hb); replace HO216 := Aside0.mk (Kd.R_below (by (with_reducible repeat (first | apply Kd.R_alloc | apply Kd.R_drewN | apply Kd.R_drew)); exact (Kd.R_mono (Kd.R_far (p := ⟨gb225, 1, none⟩) (Kd.R_far (p := ⟨gb225, 0, none⟩) (Kd.R_types HO216.out BK225.out (by decide)) (fun _ hk => hk.2) (.slice Ao36 t218.length co36)) (fun _ hk => hk.2) (.slice Ao41 t221.length co41)) (fun _ h_ => h_.1))) hb); replace HO220 := Aside0.mk (Kd.R_below (by (with_reducible repeat (first | apply Kd.R_alloc | apply Kd.R_drewN | apply Kd.R_drew)); exact (Kd.R_mono (Kd.R_far (p := ⟨gb225, 1, none⟩) (Kd.R_far (p := ⟨gb225, 0, none⟩) (Kd.R_types HO220.out BK225.out (by decide)) (fun _ hk => hk.2) (.slice Ao36 t218.length co36)) (fun _ hk => hk.2) (.slice Ao41 t221.length co41)) (fun _ h_ => h_.1))) hb); replace HO223 := Aside0.mk (Kd.R_below (by (with_reducible repeat (first | apply Kd.R_alloc | apply Kd.R_drewN | apply Kd.R_drew)); exact (Kd.R_mono (Kd.R_far (p := ⟨gb225, 1, none⟩) (Kd.R_far (p := ⟨gb225, 0, none⟩) (Kd.R_types HO223.out BK225.out (by decide)) (fun _ hk => hk.2) (.slice Ao36 t218.length co36)) (fun _ hk => hk.2) (.slice Ao41 t221.length co41)) (fun _ h_ => h_.1))) hb); replace BK195 := Aside0.mk (blk_below (g := gb195) (o := .cells #[.slice A0_0 l0_0.length c0_0, .slice A0_1 l0_1.length c0_1] 25 (0, 0)) (xff NB195_225.out NB195_225.out BK195.out) hb); replace BK210 := Aside0.mk (blk_below (g := gb210) (o := .cells #[.slice Ao22 t203.length co22, .slice Ao25 t206.length co25] 29 (0, 0)) (xff NB210_225.out NB210_225.out BK210.out) hb); replace BK217 := Aside0.mk (blk_below (g := gb217) (o := .cells #[.slice Ao29 t211.length co29, .slice Ao33 t214.length co33] 29 (0, 0)) (xff NB217_225.out NB217_225.out BK217.out) hb); replace BK225 := Aside0.mk (blk_below (g := gb225) (o := .cells #[.slice Ao36 t218.length co36, .slice Ao41 t221.length co41] 29 (0, 0)) (by (with_reducible repeat (first | refine blk_drewN ?_ _ | refine blk_drew ?_ | refine blk_alloc ?_ _)); refine blk_put (cs := #[.slice Ao36 t218.length co36, .slice none 0 0]) ?_ 1 _ rfl; (with_reducible repeat (first | refine blk_drewN ?_ _ | refine blk_drew ?_ | refine blk_alloc ?_ _)); refine blk_put (cs := #[.slice none 0 0, .slice none 0 0]) ?_ 0 _ rfl; (with_reducible repeat (first | refine blk_drewN ?_ _ | refine blk_drew ?_ | refine blk_alloc ?_ _)); exact BK225.out) hb); replace HB := xp HB hb; (try clear hb); (try clear hb2); (try clear hk); (try clear hi)))
    go_meet
    case rel => exact ⟨_, (true), (by first | rfl | (simp; done) | (simp [*]; done)), H', ⟨by first | omega | exact Nat.le_refl _⟩, ⟨xm HO205 (fun _ hk => ⟨hk.1.2, hk.2⟩)⟩, ⟨xm HO208 (fun _ hk => ⟨hk.1.2, hk.2⟩)⟩, ⟨xm HO213 (fun _ hk => ⟨hk.1.2, hk.2⟩)⟩, ⟨xm HO216 (fun _ hk => ⟨hk.1.2, hk.2⟩)⟩, ⟨xm HO220 (fun _ hk => ⟨hk.1.2, hk.2⟩)⟩, ⟨xm HO223 (fun _ hk => ⟨hk.1.2, hk.2⟩)⟩, ⟨xb BK195.out⟩, ⟨xb BK210.out⟩, ⟨xb BK217.out⟩, ⟨xb BK225.out⟩, ⟨xs HB.out⟩⟩
  case rest =>
   clear HC12
   try clear c1
   try clear c2
   try clear p2
   try clear c3
   try clear c4
   try clear c4b0
   try clear c5
   try clear c9
   try clear c10
   try clear c12
   try clear c14
   try clear c23
   try clear c27
   try clear c28
   try clear c30
   try clear c31
   try clear c37
   try clear c38
   try clear c39
   try clear c43
   try clear c44
   try clear c45
   try clear c46
   try clear c48
   try clear c49
   try clear c52
   try clear c53
   try clear c54
   try clear c56
   try clear c57
   try clear hcz14_0
   try clear hcz14_1
   try clear hcz16_0
   try clear hcz16_1
   try clear hcz24_0
   try clear hcz24_1
   try clear hcz26_0
   try clear hcz26_1
   try clear hcz32_0
   try clear hcz32_1
   try clear hcz40_0
   try clear hcz40_1
   try clear hcz47_0
   try clear hcz47_1
   try clear hcz50_0
   try clear hcz50_1
   try clear hcz55_0
   try clear hcz55_1
   try clear hcz58_0
   try clear hcz58_1
   try clear hcz6_0
   try clear hcz6_1
   try clear hfz14_0
   try clear hfz14_1
   try clear hfz16_0
   try clear hfz16_1
   try clear hfz24_0
   try clear hfz24_1
   try clear hfz26_0
   try clear hfz26_1
   try clear hfz32_0
   try clear hfz32_1
   try clear hfz40_0
   try clear hfz40_1
   try clear hfz47_0
   try clear hfz47_1
   try clear hfz50_0
   try clear hfz50_1
   try clear hfz55_0
   try clear hfz55_1
   try clear hfz58_0
   try clear hfz58_1
   try clear hfz6_0
   try clear hfz6_1
   obtain ⟨kq, x44_11, rfl, HA, HJ11, HO_211000, HO_211001, HO_218000, HO_218001, HO_226000, HO_226001, BK195, BK210, BK217, BK225, HB⟩ := hcut
   cases kq with
   | zero => exact absurd HA.out (by simp [laws_FnExactRunShip.j0])
   | succ kj11 =>
    have H := HA.out
    clear HA
    simp only [laws_FnExactRunShip.j0] at H
    by_cases c60 : x44_11 = true
    ·subst c60
     have H1 : (some false) = some true := by first | (rw [if_pos rfl] at H; exact H) | rfl
     clear H
     have H := H1
     clear H1
     exact absurd H (by simp)
    ·replace c60 := Bool.eq_false_iff.mpr c60
     subst c60
     have H1 : ((laws_toFlight.f kj11 l0_0 l0_1).bind fun bt227 => ((laws_eqFlight.f kj11 t211 t214 bt227.1 bt227.2).bind fun t233 => (if t233 = true then ((laws_markFlight.f kj11 t211 t214 1).bind fun bt234 => (if bt234.1 < 0 then (laws_FnExactRunShip.j1 kj11 a1 t209 true l0_0 l0_1 t203 t206 t218 t221) else ((laws_eqFlight.f kj11 t218 t221 t203 t206).bind fun t237 => (if t237 = true then (laws_FnExactRunShip.j1 kj11 a1 t209 (t224 != t209) l0_0 l0_1 t203 t206 t218 t221) else (laws_FnExactRunShip.j1 kj11 a1 t209 true l0_0 l0_1 t203 t206 t218 t221))))) else (some false)))) = some true := by first | (rw [if_neg (show ¬ (false = true) by decide)] at H; exact H) | rfl
     clear H
     have H := H1
     clear H1
     replace H := Option.bind_eq_some_iff.mp H
     obtain ⟨⟨t227, t230⟩, A610, H⟩ := H
     replace H : ((laws_eqFlight.f kj11 t211 t214 t227 t230).bind fun t233 => (if t233 = true then ((laws_markFlight.f kj11 t211 t214 1).bind fun bt234 => (if bt234.1 < 0 then (laws_FnExactRunShip.j1 kj11 a1 t209 true l0_0 l0_1 t203 t206 t218 t221) else ((laws_eqFlight.f kj11 t218 t221 t203 t206).bind fun t237 => (if t237 = true then (laws_FnExactRunShip.j1 kj11 a1 t209 (t224 != t209) l0_0 l0_1 t203 t206 t218 t221) else (laws_FnExactRunShip.j1 kj11 a1 t209 true l0_0 l0_1 t203 t206 t218 t221))))) else (some false))) = some true := H
     have A61 := Aside0.mk A610
     clear A610
     replace H := Option.bind_eq_some_iff.mp H
     obtain ⟨t233, A620, H⟩ := H
     replace H : (if t233 = true then ((laws_markFlight.f kj11 t211 t214 1).bind fun bt234 => (if bt234.1 < 0 then (laws_FnExactRunShip.j1 kj11 a1 t209 true l0_0 l0_1 t203 t206 t218 t221) else ((laws_eqFlight.f kj11 t218 t221 t203 t206).bind fun t237 => (if t237 = true then (laws_FnExactRunShip.j1 kj11 a1 t209 (t224 != t209) l0_0 l0_1 t203 t206 t218 t221) else (laws_FnExactRunShip.j1 kj11 a1 t209 true l0_0 l0_1 t203 t206 t218 t221))))) else (some false)) = some true := H
     have A62 := Aside0.mk A620
     clear A620
     by_cases c63 : t233 = true
     ·subst c63
      have H1 : ((laws_markFlight.f kj11 t211 t214 1).bind fun bt234 => (if bt234.1 < 0 then (laws_FnExactRunShip.j1 kj11 a1 t209 true l0_0 l0_1 t203 t206 t218 t221) else ((laws_eqFlight.f kj11 t218 t221 t203 t206).bind fun t237 => (if t237 = true then (laws_FnExactRunShip.j1 kj11 a1 t209 (t224 != t209) l0_0 l0_1 t203 t206 t218 t221) else (laws_FnExactRunShip.j1 kj11 a1 t209 true l0_0 l0_1 t203 t206 t218 t221))))) = some true := by first | (rw [if_pos rfl] at H; exact H) | rfl
      clear H
      have H := H1
      clear H1
      replace H := Option.bind_eq_some_iff.mp H
      obtain ⟨⟨t234, t235, t236⟩, A640, H⟩ := H
      replace H : (if t234 < 0 then (laws_FnExactRunShip.j1 kj11 a1 t209 true l0_0 l0_1 t203 t206 t218 t221) else ((laws_eqFlight.f kj11 t218 t221 t203 t206).bind fun t237 => (if t237 = true then (laws_FnExactRunShip.j1 kj11 a1 t209 (t224 != t209) l0_0 l0_1 t203 t206 t218 t221) else (laws_FnExactRunShip.j1 kj11 a1 t209 true l0_0 l0_1 t203 t206 t218 t221)))) = some true := H
      have A64 := Aside0.mk A640
      clear A640
      have HC65 := Aside0.mk H
      clear H
      try go_wp2
      replace HO_211000 := xw HO_211000
      replace HO_211001 := xw HO_211001
      replace HO_218000 := xw HO_218000
      replace HO_218001 := xw HO_218001
      replace HO_226000 := xw HO_226000
      replace HO_226001 := xw HO_226001
      replace BK195 := xv BK195
      replace BK210 := xv BK210
      replace BK217 := xv BK217
      replace BK225 := xv BK225
      replace HB := Aside0.mk (below_drew1 HB.out)
      refine start_ (n := 5) (S := fun w' => w'.cell? ⟨gb217, 0, none⟩ = some (.slice Ao29 t211.length co29) ∧ w'.cell? ⟨gb217, 1, none⟩ = some (.slice Ao33 t214.length co33) ∧ w'.cell? ⟨gb195, 0, none⟩ = some (.slice A0_0 l0_0.length c0_0) ∧ w'.cell? ⟨gb195, 1, none⟩ = some (.slice A0_1 l0_1.length c0_1)) (ds := []) #[false, false, false, false, false] (by kernel_rfl) rfl rfl ⟨(blk_cell BK217.out 0).trans rfl, (blk_cell BK217.out 1).trans rfl, (blk_cell BK195.out 0).trans rfl, (blk_cell BK195.out 1).trans rfl⟩ (fun hHeld => ?_)
      generalize wc.drew = w66 at HO_211000 HO_211001 HO_218000 HO_218001 HO_226000 HO_226001 BK195 BK210 BK217 BK225 HB hHeld ⊢
      refine take_ (i := 0) (N := some 45) (v := ?_) (a' := ?_) #[true, false, false, false, false] rfl rfl (by kernel_rfl) (fun _ _ _ h => h) (Or.inl ⟨by rfl, ?_⟩) hHeld ?_ ?_
      rotate_left
      ·rintro w' ⟨s0, s1, s2, s3⟩
       go_simp
       with_reducible rfl
      rotate_left
      ·simp only [Act.put, List.setIfInBounds_toArray, List.set_cons_zero, List.set_cons_succ, i64_w, i32_w]
       rfl
      refine take_ (i := 1) (N := some 46) (v := ?_) (a' := ?_) #[true, true, false, false, false] rfl rfl (by kernel_rfl) (fun _ _ _ h => h) (Or.inl ⟨by rfl, ?_⟩) hHeld ?_ ?_
      rotate_left
      ·rintro w' ⟨s0, s1, s2, s3⟩
       go_simp
       with_reducible rfl
      rotate_left
      ·simp only [Act.put, List.setIfInBounds_toArray, List.set_cons_zero, List.set_cons_succ, i64_w, i32_w]
       rfl
      refine one_ (i := 2) (N := some 47) #[true, true, true, false, false] rfl rfl (by kernel_rfl) (by decide) (fun K hK => ?_)
      refine goes_ Try.func12 (by kernel_rfl) rfl #[.agg #[.slice A0_0 l0_0.length c0_0, .slice A0_1 l0_1.length c0_1]] (by rfl) rfl rfl (by (try simp only [List.map_toArray, List.map_cons, List.map_nil]); first | done | rfl | (simp only [List.length_drop, List.length_take]; rfl)) ?_
      with_reducible refine (laws_toFlight.calls kj11 _ _ l0_0 _ _ l0_1 t227 t230 _ ?side1 ?side2 ?side3 ?side4 A61.out).mono ?_
      (case side1 => exact xd ((Kd.C_below HR0_0.out HB.out)))
      (case side2 => exact HC0_0.out)
      (case side3 => exact xd ((Kd.C_below HR0_1.out HB.out)))
      (case side4 => exact HC0_1.out)
      rintro e w67 ⟨v228, v231, rfl, ho0, ho1, hb⟩
      refine ⟨_, rfl, ?_⟩
      have HO229 := Aside0.mk (Kd.R_lower (Kd.R_new' (Kd.R_new' (Kd.R_new' ho0 (Kd.R_lt (xr HO_211000.out))) (Kd.R_lt (xr HO_218000.out))) (Kd.R_lt (xr HO_226000.out))) (below_size (xs HB.out)))
      replace HO_211000 := Aside0.mk (Kd.R_elder' (xr HO_211000.out) (Kd.R_base ho0) hb)
      replace HO_218000 := Aside0.mk (Kd.R_elder' (xr HO_218000.out) (Kd.R_base ho0) hb)
      replace HO_226000 := Aside0.mk (Kd.R_elder' (xr HO_226000.out) (Kd.R_base ho0) hb)
      have HO232 := Aside0.mk (Kd.R_lower (Kd.R_new' (Kd.R_new' (Kd.R_new' ho1 (Kd.R_lt (xr HO_211001.out))) (Kd.R_lt (xr HO_218001.out))) (Kd.R_lt (xr HO_226001.out))) (below_size (xs HB.out)))
      replace HO_211001 := Aside0.mk (Kd.R_elder' (xr HO_211001.out) (Kd.R_base ho1) hb)
      replace HO_218001 := Aside0.mk (Kd.R_elder' (xr HO_218001.out) (Kd.R_base ho1) hb)
      replace HO_226001 := Aside0.mk (Kd.R_elder' (xr HO_226001.out) (Kd.R_base ho1) hb)
      replace BK195 := xk BK195 hb
      replace BK210 := xk BK210 hb
      replace BK217 := xk BK217 hb
      replace BK225 := xk BK225 hb
      replace HB := xp HB hb
      (try clear hb)
      (try clear hb2)
      (try clear hk)
      (try clear hi)
      (try clear ho0)
      (try clear ho1)
      obtain ⟨Ao68, co68, eo68⟩ := Kd.R_slice HO229.out
      (first | subst eo68 | (injection eo68 with f1_ f2_ f3_; have f4_ := f1_.symm; have f5_ := f3_.symm; clear f1_ f2_ f3_; subst f4_; subst f5_))
      obtain ⟨Ao69, co69, eo69⟩ := Kd.R_slice HO232.out
      (first | subst eo69 | (injection eo69 with f1_ f2_ f3_; have f4_ := f1_.symm; have f5_ := f3_.symm; clear f1_ f2_ f3_; subst f4_; subst f5_))
      refine hK.out _ _ ⟨(blk_cell BK217.out 0).trans rfl, (blk_cell BK217.out 1).trans rfl, (blk_cell BK195.out 0).trans rfl, (blk_cell BK195.out 1).trans rfl⟩ (fun hHeld => ?_)
      clear hK K
      refine norm_ (a' := ?_) ?_ ?_
      rotate_left
      ·show Act.put _ (some 47) _ = _
       simp only [Act.put, List.setIfInBounds_toArray, List.set_cons_zero, List.set_cons_succ, i64_w, i32_w]
       rfl
      refine one_ (i := 3) (N := some 48) #[true, true, true, true, false] rfl rfl (by kernel_rfl) (by decide) (fun K hK => ?_)
      refine goes_ Try.func14 (by kernel_rfl) rfl #[.agg #[.slice Ao29 t211.length co29, .slice Ao33 t214.length co33], .agg #[.slice Ao68 t227.length co68, .slice Ao69 t230.length co69]] (by rfl) rfl rfl (by (try simp only [List.map_toArray, List.map_cons, List.map_nil]); first | done | rfl | (simp only [List.length_drop, List.length_take]; rfl)) ?_
      with_reducible refine (laws_eqFlight.calls kj11 _ _ t211 _ _ t214 _ _ t227 _ _ t230 true _ ?side1 ?side2 ?side3 ?side4 ?side5 ?side6 ?side7 ?side8 A62.out).mono ?_
      (case side1 => exact xd ((Kd.R_reads' HO_218000.out).2.2))
      (case side2 => exact (Kd.R_reads' HO_218000.out).2.1)
      (case side3 => exact xd ((Kd.R_reads' HO_218001.out).2.2))
      (case side4 => exact (Kd.R_reads' HO_218001.out).2.1)
      (case side5 => exact xd ((Kd.R_reads' HO229.out).2.2))
      (case side6 => exact (Kd.R_reads' HO229.out).2.1)
      (case side7 => exact xd ((Kd.R_reads' HO232.out).2.2))
      (case side8 => exact (Kd.R_reads' HO232.out).2.1)
      rintro e w70 ⟨rfl, hb⟩
      refine ⟨_, rfl, ?_⟩
      replace HO_211000 := xq HO_211000 hb
      replace HO_211001 := xq HO_211001 hb
      replace HO_218000 := xq HO_218000 hb
      replace HO_218001 := xq HO_218001 hb
      replace HO_226000 := xq HO_226000 hb
      replace HO_226001 := xq HO_226001 hb
      replace HO229 := xq HO229 hb
      replace HO232 := xq HO232 hb
      replace BK195 := xk BK195 hb
      replace BK210 := xk BK210 hb
      replace BK217 := xk BK217 hb
      replace BK225 := xk BK225 hb
      replace HB := xp HB hb
      (try clear hb)
      (try clear hb2)
      (try clear hk)
      (try clear hi)
      refine hK.out _ _ ⟨(blk_cell BK217.out 0).trans rfl, (blk_cell BK217.out 1).trans rfl, (blk_cell BK195.out 0).trans rfl, (blk_cell BK195.out 1).trans rfl⟩ (fun hHeld => ?_)
      clear hK K
      refine norm_ (a' := ?_) ?_ ?_
      rotate_left
      ·show Act.put _ (some 48) _ = _
       simp only [Act.put, List.setIfInBounds_toArray, List.set_cons_zero, List.set_cons_succ, i64_w, i32_w]
       rfl
      refine pure_ (i := 4) (N := some 49) (v := ?_) (a' := ?_) #[true, true, true, true, true] rfl rfl (by kernel_rfl) (fun _ _ _ h => h) (Or.inl ⟨by rfl, ?_⟩) ?_ ?_
      rotate_left
      ·intro w'
       go_simp
       with_reducible rfl
      rotate_left
      ·simp only [Act.put, List.setIfInBounds_toArray, List.set_cons_zero, List.set_cons_succ, i64_w, i32_w]
       rfl
      refine done_ (by kernel_rfl) ?_
      have hnb71 := NB217_195.out
      have hnc71 := NB195_217.out
      have hnb72 := NB217_210.out
      have hnc72 := NB210_217.out
      have hnb73 := NB217_225.out
      have hnc73 := NB225_217.out
      have hcz74_0 : w70.cell? ⟨gb217, 0, none⟩ = some (.slice Ao29 t211.length co29) := (blk_cell BK217.out 0).trans rfl
      have hcz74_1 : w70.cell? ⟨gb217, 1, none⟩ = some (.slice Ao33 t214.length co33) := (blk_cell BK217.out 1).trans rfl
      have hfz74_0 := blk_frozen BK217.out 0
      have hfz74_1 := blk_frozen BK217.out 1
      go_upto_region 14 with (first | ((with_reducible refine gate_callee (f := 19) rfl ?_); refine goesL_ (some 52) rfl rfl Try.func19 (by kernel_rfl) rfl #[.agg #[.slice Ao29 t211.length co29, .slice Ao33 t214.length co33], .int .i64 1] rfl (by (try simp only [List.map_toArray, List.map_cons, List.map_nil]); first | done | rfl | (simp only [List.length_drop, List.length_take]; rfl)) ?_; (with_reducible refine (laws_markFlight.calls kj11 (fun k_ => some k_ = (.slice Ao29 t211.length co29 : Value).ownBlock) (.slice Ao29 t211.length co29) t211 (fun k_ => some k_ = (.slice Ao33 t214.length co33 : Value).ownBlock) (.slice Ao33 t214.length co33) t214 1 t234 t235 t236 w _ ?side1 ?side2 ?side3 A64.out).mono ?_); (case side1 => repeat (first | (with_reducible first | exact HB.out | apply below_alloc | apply pw_below_drewN | apply below_drew1 | refine below_set ?_ GE195.out | refine below_set ?_ GE210.out | refine below_set ?_ GE217.out | refine below_set ?_ GE225.out) | exact HB.out)); (case side2 => exact Kd.R_tight rfl HO_218000.out); (case side3 => exact Kd.R_tight rfl HO_218001.out); rintro e w75 ⟨rfl, hy0, hy1, hb, hkp⟩; refine ⟨_, rfl, ?_⟩; replace HO_211000 := Aside0.mk (Kd.R_mono (ok' := fun k_ => nS k_ Ao29 t211.length co29 ∧ nS k_ Ao36 t218.length co36 ∧ nS k_ Ao68 t227.length co68) (Kd.R_keptB ((Kd.R_apart' HO_211000.out (Kd.R_typed HO_218001.out) (by decide))) hkp (fun k_ hk_ hs_ => Or.elim hs_ (fun e_ => (hk_.1.1.1) e_) (fun e_ => (hk_.2) e_))) (fun k_ hk_ => ⟨hk_.1.1.1.1, hk_.1.1.1.2, hk_.1.1.2⟩)); replace HO_211001 := Aside0.mk (Kd.R_mono (ok' := fun k_ => nS k_ Ao33 t214.length co33 ∧ nS k_ Ao41 t221.length co41 ∧ nS k_ Ao69 t230.length co69) (Kd.R_keptB ((Kd.R_apart' HO_211001.out (Kd.R_typed HO_218000.out) (by decide))) hkp (fun k_ hk_ hs_ => Or.elim hs_ (fun e_ => (hk_.2) e_) (fun e_ => (hk_.1.1.1) e_))) (fun k_ hk_ => ⟨hk_.1.1.1.1, hk_.1.1.1.2, hk_.1.1.2⟩)); replace HO_226000 := Aside0.mk (Kd.R_mono (ok' := fun k_ => nS k_ Ao22 t203.length co22 ∧ nS k_ Ao29 t211.length co29 ∧ nS k_ Ao68 t227.length co68) (Kd.R_keptB ((Kd.R_apart' HO_226000.out (Kd.R_typed HO_218001.out) (by decide))) hkp (fun k_ hk_ hs_ => Or.elim hs_ (fun e_ => (hk_.1.1.2) e_) (fun e_ => (hk_.2) e_))) (fun k_ hk_ => ⟨hk_.1.1.1.1, hk_.1.1.1.2, hk_.1.1.2⟩)); replace HO_226001 := Aside0.mk (Kd.R_mono (ok' := fun k_ => nS k_ Ao25 t206.length co25 ∧ nS k_ Ao33 t214.length co33 ∧ nS k_ Ao69 t230.length co69) (Kd.R_keptB ((Kd.R_apart' HO_226001.out (Kd.R_typed HO_218000.out) (by decide))) hkp (fun k_ hk_ hs_ => Or.elim hs_ (fun e_ => (hk_.2) e_) (fun e_ => (hk_.1.1.2) e_))) (fun k_ hk_ => ⟨hk_.1.1.1.1, hk_.1.1.1.2, hk_.1.1.2⟩)); replace BK195 := Aside0.mk (blk_kept (xb BK195.out) hkp (fun hs_ => Or.elim hs_ (fun e_ => (fun e_ => (Kd.R_ne HO_218000.out BK195.out (by decide)) e_) e_) (fun e_ => (fun e_ => (Kd.R_ne HO_218001.out BK195.out (by decide)) e_) e_))); replace BK210 := Aside0.mk (blk_kept (xb BK210.out) hkp (fun hs_ => Or.elim hs_ (fun e_ => (fun e_ => (Kd.R_ne HO_218000.out BK210.out (by decide)) e_) e_) (fun e_ => (fun e_ => (Kd.R_ne HO_218001.out BK210.out (by decide)) e_) e_))); replace BK217 := Aside0.mk (blk_kept (xb BK217.out) hkp (fun hs_ => Or.elim hs_ (fun e_ => (fun e_ => (Kd.R_ne HO_218000.out BK217.out (by decide)) e_) e_) (fun e_ => (fun e_ => (Kd.R_ne HO_218001.out BK217.out (by decide)) e_) e_))); replace BK225 := Aside0.mk (blk_kept (xb BK225.out) hkp (fun hs_ => Or.elim hs_ (fun e_ => (fun e_ => (Kd.R_ne HO_218000.out BK225.out (by decide)) e_) e_) (fun e_ => (fun e_ => (Kd.R_ne HO_218001.out BK225.out (by decide)) e_) e_))); replace HO229 := Aside0.mk (Kd.R_mono (ok' := fun k_ => nS k_ Ao22 t203.length co22 ∧ nS k_ Ao29 t211.length co29 ∧ nS k_ Ao36 t218.length co36) (Kd.R_keptB ((Kd.R_apart' HO229.out (Kd.R_typed HO_218001.out) (by decide))) hkp (fun k_ hk_ hs_ => Or.elim hs_ (fun e_ => (hk_.1.1.2) e_) (fun e_ => (hk_.2) e_))) (fun k_ hk_ => ⟨hk_.1.1.1.1.2, hk_.1.1.1.2, hk_.1.1.2⟩)); replace HO_218001 := Aside0.mk (Kd.R_reok rfl hy1 (fun k_ e_ => HO_218001.out.1 k_ e_)); replace HO232 := Aside0.mk (Kd.R_mono (ok' := fun k_ => nS k_ Ao25 t206.length co25 ∧ nS k_ Ao33 t214.length co33 ∧ nS k_ Ao41 t221.length co41) (Kd.R_keptB ((Kd.R_apart' HO232.out (Kd.R_typed HO_218000.out) (by decide))) hkp (fun k_ hk_ hs_ => Or.elim hs_ (fun e_ => (hk_.2) e_) (fun e_ => (hk_.1.1.2) e_))) (fun k_ hk_ => ⟨hk_.1.1.1.1.2, hk_.1.1.1.2, hk_.1.1.2⟩)); replace HO_218000 := Aside0.mk (Kd.R_reok rfl hy0 (fun k_ e_ => HO_218000.out.1 k_ e_)); replace HB := Aside0.mk (hb); (try clear hb); (try clear hkp); (try clear hy0); (try clear hy1)))
      (try simp only [Act.put, List.setIfInBounds_toArray, List.set_cons_zero, List.set_cons_succ])
      go_cut [65] (fun v65 wc => ∃ (kq : Nat) (x65_64 : Bool), v65 = .bool x65_64 ∧ Aside0 (laws_FnExactRunShip.j1 kq a1 t209 x65_64 l0_0 l0_1 t203 t206 t218 t221 = some true) ∧ Aside0 (kq ≤ kj11) ∧ Aside0 (Kd.R (Kd.int .i64) 3 wc w.heap.size (fun k_ => nS k_ Ao29 t211.length co29 ∧ nS k_ Ao36 t218.length co36) (.slice Ao22 t203.length co22) t203) ∧ Aside0 (Kd.R Kd.bool 4 wc w.heap.size (fun k_ => nS k_ Ao33 t214.length co33 ∧ nS k_ Ao41 t221.length co41) (.slice Ao25 t206.length co25) t206) ∧ Aside0 (Kd.R (Kd.int .i64) 3 wc w.heap.size (fun k_ => nS k_ Ao22 t203.length co22 ∧ nS k_ Ao36 t218.length co36) (.slice Ao29 t211.length co29) t235) ∧ Aside0 (Kd.R Kd.bool 4 wc w.heap.size (fun k_ => nS k_ Ao25 t206.length co25 ∧ nS k_ Ao41 t221.length co41) (.slice Ao33 t214.length co33) t236) ∧ Aside0 (Kd.R (Kd.int .i64) 3 wc w.heap.size (fun k_ => nS k_ Ao22 t203.length co22 ∧ nS k_ Ao29 t211.length co29) (.slice Ao36 t218.length co36) t218) ∧ Aside0 (Kd.R Kd.bool 4 wc w.heap.size (fun k_ => nS k_ Ao25 t206.length co25 ∧ nS k_ Ao33 t214.length co33) (.slice Ao41 t221.length co41) t221) ∧ Aside0 (wc.heap[gb195]? = some (.cells #[(.slice A0_0 l0_0.length c0_0), (.slice A0_1 l0_1.length c0_1)] 25 (0, 0))) ∧ Aside0 (wc.heap[gb210]? = some (.cells #[(.slice Ao22 t203.length co22), (.slice Ao25 t206.length co25)] 29 (0, 0))) ∧ Aside0 (wc.heap[gb217]? = some (.cells #[(.slice Ao29 t211.length co29), (.slice Ao33 t214.length co33)] 29 (0, 0))) ∧ Aside0 (wc.heap[gb225]? = some (.cells #[(.slice Ao36 t218.length co36), (.slice Ao41 t221.length co41)] 29 (0, 0))) ∧ Aside0 (Below w.heap.size w wc))
      case first =>
       have H := HC65.out
       clear HC65
       by_cases c76 : t234 < 0
       ·rw [if_pos c76] at H
        have c76b0 : decide (t234 < 0) = true := decide_eq_true c76
        clear c76
        (first | rw [c76b0] | (simp only [i64_w, i32_w]; rw [c76b0]) | skip)
        have H' := Aside0.mk H
        clear H
        go_wp2
        go_meet
        case rel => exact ⟨_, (true), (by first | rfl | (simp; done) | (simp [*]; done)), H', ⟨by have := HJ11.out; first | omega | exact Nat.le_refl _⟩, ⟨xm HO_211000 (fun _ hk => ⟨hk.1, hk.2.1⟩)⟩, ⟨xm HO_211001 (fun _ hk => ⟨hk.1, hk.2.1⟩)⟩, ⟨xm HO_218000 (fun _ hk => ⟨hk.1.1, hk.1.2⟩)⟩, ⟨xm HO_218001 (fun _ hk => ⟨hk.1.1, hk.1.2⟩)⟩, ⟨xm HO_226000 (fun _ hk => ⟨hk.1, hk.2.1⟩)⟩, ⟨xm HO_226001 (fun _ hk => ⟨hk.1, hk.2.1⟩)⟩, ⟨xb BK195.out⟩, ⟨xb BK210.out⟩, ⟨xb BK217.out⟩, ⟨xb BK225.out⟩, ⟨xs HB.out⟩⟩
       ·rw [if_neg c76] at H
        have c76b0 : decide (t234 < 0) = false := decide_eq_false c76
        clear c76
        (first | rw [c76b0] | (simp only [i64_w, i32_w]; rw [c76b0]) | skip)
        replace H := Option.bind_eq_some_iff.mp H
        obtain ⟨t237, A770, H⟩ := H
        replace H : (if t237 = true then (laws_FnExactRunShip.j1 kj11 a1 t209 (t224 != t209) l0_0 l0_1 t203 t206 t218 t221) else (laws_FnExactRunShip.j1 kj11 a1 t209 true l0_0 l0_1 t203 t206 t218 t221)) = some true := H
        have A77 := Aside0.mk A770
        clear A770
        by_cases c78 : t237 = true
        ·subst c78
         have H1 : (laws_FnExactRunShip.j1 kj11 a1 t209 (t224 != t209) l0_0 l0_1 t203 t206 t218 t221) = some true := by first | (rw [if_pos rfl] at H; exact H) | rfl
         clear H
         have H := H1
         clear H1
         have H' := Aside0.mk H
         clear H
         have hnb79 := NB225_195.out
         have hnc79 := NB195_225.out
         have hnb80 := NB225_210.out
         have hnc80 := NB210_225.out
         have hnb81 := NB225_217.out
         have hnc81 := NB217_225.out
         have hcz82_0 : w75.cell? ⟨gb225, 0, none⟩ = some (.slice Ao36 t218.length co36) := (blk_cell BK225.out 0).trans rfl
         have hcz82_1 : w75.cell? ⟨gb225, 1, none⟩ = some (.slice Ao41 t221.length co41) := (blk_cell BK225.out 1).trans rfl
         have hfz82_0 := blk_frozen BK225.out 0
         have hfz82_1 := blk_frozen BK225.out 1
         have hnb83 := NB210_195.out
         have hnc83 := NB195_210.out
         have hnb84 := NB210_217.out
         have hnc84 := NB217_210.out
         have hcz85_0 : w75.cell? ⟨gb210, 0, none⟩ = some (.slice Ao22 t203.length co22) := (blk_cell BK210.out 0).trans rfl
         have hcz85_1 : w75.cell? ⟨gb210, 1, none⟩ = some (.slice Ao25 t206.length co25) := (blk_cell BK210.out 1).trans rfl
         have hfz85_0 := blk_frozen BK210.out 0
         have hfz85_1 := blk_frozen BK210.out 1
         go_wp2_with (first | (go_at_call 14; (with_reducible refine (laws_eqFlight.calls kj11 _ _ t218 _ _ t221 _ _ t203 _ _ t206 true _ ?side1 ?side2 ?side3 ?side4 ?side5 ?side6 ?side7 ?side8 A77.out).mono ?_); (case side1 => exact xd ((Kd.R_reads' HO_226000.out).2.2)); (case side2 => exact (Kd.R_reads' HO_226000.out).2.1); (case side3 => exact xd ((Kd.R_reads' HO_226001.out).2.2)); (case side4 => exact (Kd.R_reads' HO_226001.out).2.1); (case side5 => exact xd ((Kd.R_reads' HO_211000.out).2.2)); (case side6 => exact (Kd.R_reads' HO_211000.out).2.1); (case side7 => exact xd ((Kd.R_reads' HO_211001.out).2.2)); (case side8 => exact (Kd.R_reads' HO_211001.out).2.1); rintro e w86 ⟨rfl, hb⟩; replace HO_211000 := xq HO_211000 hb; replace HO_211001 := xq HO_211001 hb; replace HO_218000 := xq HO_218000 hb; replace HO_218001 := xq HO_218001 hb; replace HO_226000 := xq HO_226000 hb; replace HO_226001 := xq HO_226001 hb; replace HO229 := xq HO229 hb; replace HO232 := xq HO232 hb; replace BK195 := xk BK195 hb; replace BK210 := xk BK210 hb; replace BK217 := xk BK217 hb; replace BK225 := xk BK225 hb; replace HB := xp HB hb; (try clear hb); (try clear hb2); (try clear hk); (try clear hi)))
         go_meet
         case rel => exact ⟨_, ((t224 != t209)), (by first | rfl | (simp; done) | (simp [*]; done)), H', ⟨by have := HJ11.out; first | omega | exact Nat.le_refl _⟩, ⟨xm HO_211000 (fun _ hk => ⟨hk.1, hk.2.1⟩)⟩, ⟨xm HO_211001 (fun _ hk => ⟨hk.1, hk.2.1⟩)⟩, ⟨xm HO_218000 (fun _ hk => ⟨hk.1.1, hk.1.2⟩)⟩, ⟨xm HO_218001 (fun _ hk => ⟨hk.1.1, hk.1.2⟩)⟩, ⟨xm HO_226000 (fun _ hk => ⟨hk.1, hk.2.1⟩)⟩, ⟨xm HO_226001 (fun _ hk => ⟨hk.1, hk.2.1⟩)⟩, ⟨xb BK195.out⟩, ⟨xb BK210.out⟩, ⟨xb BK217.out⟩, ⟨xb BK225.out⟩, ⟨xs HB.out⟩⟩
        ·replace c78 := Bool.eq_false_iff.mpr c78
         subst c78
         have H1 : (laws_FnExactRunShip.j1 kj11 a1 t209 true l0_0 l0_1 t203 t206 t218 t221) = some true := by first | (rw [if_neg (show ¬ (false = true) by decide)] at H; exact H) | rfl
         clear H
         have H := H1
         clear H1
         have H' := Aside0.mk H
         clear H
         have hnb87 := NB225_195.out
         have hnc87 := NB195_225.out
         have hnb88 := NB225_210.out
         have hnc88 := NB210_225.out
         have hnb89 := NB225_217.out
         have hnc89 := NB217_225.out
         have hcz90_0 : w75.cell? ⟨gb225, 0, none⟩ = some (.slice Ao36 t218.length co36) := (blk_cell BK225.out 0).trans rfl
         have hcz90_1 : w75.cell? ⟨gb225, 1, none⟩ = some (.slice Ao41 t221.length co41) := (blk_cell BK225.out 1).trans rfl
         have hfz90_0 := blk_frozen BK225.out 0
         have hfz90_1 := blk_frozen BK225.out 1
         have hnb91 := NB210_195.out
         have hnc91 := NB195_210.out
         have hnb92 := NB210_217.out
         have hnc92 := NB217_210.out
         have hcz93_0 : w75.cell? ⟨gb210, 0, none⟩ = some (.slice Ao22 t203.length co22) := (blk_cell BK210.out 0).trans rfl
         have hcz93_1 : w75.cell? ⟨gb210, 1, none⟩ = some (.slice Ao25 t206.length co25) := (blk_cell BK210.out 1).trans rfl
         have hfz93_0 := blk_frozen BK210.out 0
         have hfz93_1 := blk_frozen BK210.out 1
         go_wp2_with (first | (go_at_call 14; (with_reducible refine (laws_eqFlight.calls kj11 _ _ t218 _ _ t221 _ _ t203 _ _ t206 false _ ?side1 ?side2 ?side3 ?side4 ?side5 ?side6 ?side7 ?side8 A77.out).mono ?_); (case side1 => exact xd ((Kd.R_reads' HO_226000.out).2.2)); (case side2 => exact (Kd.R_reads' HO_226000.out).2.1); (case side3 => exact xd ((Kd.R_reads' HO_226001.out).2.2)); (case side4 => exact (Kd.R_reads' HO_226001.out).2.1); (case side5 => exact xd ((Kd.R_reads' HO_211000.out).2.2)); (case side6 => exact (Kd.R_reads' HO_211000.out).2.1); (case side7 => exact xd ((Kd.R_reads' HO_211001.out).2.2)); (case side8 => exact (Kd.R_reads' HO_211001.out).2.1); rintro e w94 ⟨rfl, hb⟩; replace HO_211000 := xq HO_211000 hb; replace HO_211001 := xq HO_211001 hb; replace HO_218000 := xq HO_218000 hb; replace HO_218001 := xq HO_218001 hb; replace HO_226000 := xq HO_226000 hb; replace HO_226001 := xq HO_226001 hb; replace HO229 := xq HO229 hb; replace HO232 := xq HO232 hb; replace BK195 := xk BK195 hb; replace BK210 := xk BK210 hb; replace BK217 := xk BK217 hb; replace BK225 := xk BK225 hb; replace HB := xp HB hb; (try clear hb); (try clear hb2); (try clear hk); (try clear hi)))
         go_meet
         case rel => exact ⟨_, (true), (by first | rfl | (simp; done) | (simp [*]; done)), H', ⟨by have := HJ11.out; first | omega | exact Nat.le_refl _⟩, ⟨xm HO_211000 (fun _ hk => ⟨hk.1, hk.2.1⟩)⟩, ⟨xm HO_211001 (fun _ hk => ⟨hk.1, hk.2.1⟩)⟩, ⟨xm HO_218000 (fun _ hk => ⟨hk.1.1, hk.1.2⟩)⟩, ⟨xm HO_218001 (fun _ hk => ⟨hk.1.1, hk.1.2⟩)⟩, ⟨xm HO_226000 (fun _ hk => ⟨hk.1, hk.2.1⟩)⟩, ⟨xm HO_226001 (fun _ hk => ⟨hk.1, hk.2.1⟩)⟩, ⟨xb BK195.out⟩, ⟨xb BK210.out⟩, ⟨xb BK217.out⟩, ⟨xb BK225.out⟩, ⟨xs HB.out⟩⟩
      case rest =>
       clear HC65
       try clear c1
       try clear c2
       try clear p2
       try clear c3
       try clear c4
       try clear c4b0
       try clear c5
       try clear c6
       try clear c7
       try clear c8
       try clear c9
       try clear c10
       try clear c12
       try clear c14
       try clear c19
       try clear c23
       try clear c27
       try clear c28
       try clear c30
       try clear c31
       try clear c37
       try clear c38
       try clear c39
       try clear c43
       try clear c44
       try clear c45
       try clear c46
       try clear c48
       try clear c49
       try clear c52
       try clear c53
       try clear c54
       try clear c56
       try clear c57
       try clear c60
       try clear c63
       try clear c71
       try clear c72
       try clear c73
       try clear c76
       try clear c76b0
       try clear c78
       try clear c79
       try clear c80
       try clear c81
       try clear c83
       try clear c84
       try clear c87
       try clear c88
       try clear c89
       try clear c91
       try clear c92
       try clear hcz14_0
       try clear hcz14_1
       try clear hcz16_0
       try clear hcz16_1
       try clear hcz24_0
       try clear hcz24_1
       try clear hcz26_0
       try clear hcz26_1
       try clear hcz32_0
       try clear hcz32_1
       try clear hcz40_0
       try clear hcz40_1
       try clear hcz47_0
       try clear hcz47_1
       try clear hcz50_0
       try clear hcz50_1
       try clear hcz55_0
       try clear hcz55_1
       try clear hcz58_0
       try clear hcz58_1
       try clear hcz6_0
       try clear hcz6_1
       try clear hcz74_0
       try clear hcz74_1
       try clear hcz82_0
       try clear hcz82_1
       try clear hcz85_0
       try clear hcz85_1
       try clear hcz90_0
       try clear hcz90_1
       try clear hcz93_0
       try clear hcz93_1
       try clear hfz14_0
       try clear hfz14_1
       try clear hfz16_0
       try clear hfz16_1
       try clear hfz24_0
       try clear hfz24_1
       try clear hfz26_0
       try clear hfz26_1
       try clear hfz32_0
       try clear hfz32_1
       try clear hfz40_0
       try clear hfz40_1
       try clear hfz47_0
       try clear hfz47_1
       try clear hfz50_0
       try clear hfz50_1
       try clear hfz55_0
       try clear hfz55_1
       try clear hfz58_0
       try clear hfz58_1
       try clear hfz6_0
       try clear hfz6_1
       try clear hfz74_0
       try clear hfz74_1
       try clear hfz82_0
       try clear hfz82_1
       try clear hfz85_0
       try clear hfz85_1
       try clear hfz90_0
       try clear hfz90_1
       try clear hfz93_0
       try clear hfz93_1
       try clear p2
       obtain ⟨kq, x65_64, rfl, HA, HJ64, HO_211000, HO_211001, HO_218000, HO_218001, HO_226000, HO_226001, BK195, BK210, BK217, BK225, HB⟩ := hcut
       have hl218000_64 := (Kd.R_reads' HO_218000.out).1
       rw [hl218000_64] at HO_218000
       (try simp only [hl218000_64])
       (try simp only [hl218000_64] at BK195)
       (try simp only [hl218000_64] at BK210)
       (try simp only [hl218000_64] at BK217)
       (try simp only [hl218000_64] at BK225)
       (try simp only [hl218000_64] at HO_211000)
       (try simp only [hl218000_64] at HO_211001)
       (try simp only [hl218000_64] at HO_218001)
       (try simp only [hl218000_64] at HO_226000)
       (try simp only [hl218000_64] at HO_226001)
       have hl218001_64 := (Kd.R_reads' HO_218001.out).1
       rw [hl218001_64] at HO_218001
       (try simp only [hl218001_64])
       (try simp only [hl218001_64] at BK195)
       (try simp only [hl218001_64] at BK210)
       (try simp only [hl218001_64] at BK217)
       (try simp only [hl218001_64] at BK225)
       (try simp only [hl218001_64] at HO_211000)
       (try simp only [hl218001_64] at HO_211001)
       (try simp only [hl218001_64] at HO_218000)
       (try simp only [hl218001_64] at HO_226000)
       (try simp only [hl218001_64] at HO_226001)
       cases kq with
       | zero => exact absurd HA.out (by simp [laws_FnExactRunShip.j1])
       | succ kj64 =>
        have H := HA.out
        clear HA
        simp only [laws_FnExactRunShip.j1] at H
        by_cases c95 : x65_64 = true
        ·subst c95
         have H1 : (some false) = some true := by first | (rw [if_pos rfl] at H; exact H) | rfl
         clear H
         have H := H1
         clear H1
         exact absurd H (by simp)
        ·replace c95 := Bool.eq_false_iff.mpr c95
         subst c95
         have H1 : ((laws_markFlight.f kj64 t218 t221 1).bind fun bt238 => ((laws_heldFlight.f kj64 bt238.2.1 bt238.2.2 1).bind fun t241 => (if t241 < 0 then (some false) else (if t241 = bt238.1 then ((laws_toFlight.f kj64 l0_0 l0_1).bind fun bt242 => ((impl_RunShip.f bt242.1 bt242.2 a1).bind fun bt248 => ((laws_eqFlight.f kj64 bt248.1 bt248.2.1 t203 t206).bind fun t256 => (if t256 = true then (laws_FnExactRunShip.j2 kj64 bt238.1 (bt248.2.2 != t209) bt238.2.1 bt238.2.2) else (laws_FnExactRunShip.j2 kj64 bt238.1 true bt238.2.1 bt238.2.2))))) else (some false))))) = some true := by first | (rw [if_neg (show ¬ (false = true) by decide)] at H; exact H) | rfl
         clear H
         have H := H1
         clear H1
         replace H := Option.bind_eq_some_iff.mp H
         obtain ⟨⟨t238, t239, t240⟩, A960, H⟩ := H
         replace H : ((laws_heldFlight.f kj64 t239 t240 1).bind fun t241 => (if t241 < 0 then (some false) else (if t241 = t238 then ((laws_toFlight.f kj64 l0_0 l0_1).bind fun bt242 => ((impl_RunShip.f bt242.1 bt242.2 a1).bind fun bt248 => ((laws_eqFlight.f kj64 bt248.1 bt248.2.1 t203 t206).bind fun t256 => (if t256 = true then (laws_FnExactRunShip.j2 kj64 t238 (bt248.2.2 != t209) t239 t240) else (laws_FnExactRunShip.j2 kj64 t238 true t239 t240))))) else (some false)))) = some true := H
         have A96 := Aside0.mk A960
         clear A960
         replace H := Option.bind_eq_some_iff.mp H
         obtain ⟨t241, A970, H⟩ := H
         replace H : (if t241 < 0 then (some false) else (if t241 = t238 then ((laws_toFlight.f kj64 l0_0 l0_1).bind fun bt242 => ((impl_RunShip.f bt242.1 bt242.2 a1).bind fun bt248 => ((laws_eqFlight.f kj64 bt248.1 bt248.2.1 t203 t206).bind fun t256 => (if t256 = true then (laws_FnExactRunShip.j2 kj64 t238 (bt248.2.2 != t209) t239 t240) else (laws_FnExactRunShip.j2 kj64 t238 true t239 t240))))) else (some false))) = some true := H
         have A97 := Aside0.mk A970
         clear A970
         by_cases c98 : t241 < 0
         ·rw [if_pos c98] at H
          have c98b0 : decide (t241 < 0) = true := decide_eq_true c98
          clear c98
          exact absurd H (by simp)
         ·rw [if_neg c98] at H
          have c98b0 : decide (t241 < 0) = false := decide_eq_false c98
          clear c98
          by_cases c99 : t241 = t238
          ·rw [if_pos c99] at H
           have c99b0 : (t241 == t238) = true := beq_iff_eq.mpr c99
           have c99b1 : (t241 != t238) = false := bne_eq_false_iff_eq.mpr c99
           clear c99
           replace H := Option.bind_eq_some_iff.mp H
           obtain ⟨⟨t242, t245⟩, A1000, H⟩ := H
           replace H : ((impl_RunShip.f t242 t245 a1).bind fun bt248 => ((laws_eqFlight.f kj64 bt248.1 bt248.2.1 t203 t206).bind fun t256 => (if t256 = true then (laws_FnExactRunShip.j2 kj64 t238 (bt248.2.2 != t209) t239 t240) else (laws_FnExactRunShip.j2 kj64 t238 true t239 t240)))) = some true := H
           have A100 := Aside0.mk A1000
           clear A1000
           replace H := Option.bind_eq_some_iff.mp H
           obtain ⟨⟨t248, t251, t254⟩, A1010, H⟩ := H
           replace H : ((laws_eqFlight.f kj64 t248 t251 t203 t206).bind fun t256 => (if t256 = true then (laws_FnExactRunShip.j2 kj64 t238 (t254 != t209) t239 t240) else (laws_FnExactRunShip.j2 kj64 t238 true t239 t240))) = some true := H
           have A101 := Aside0.mk A1010
           clear A1010
           have HC102 := Aside0.mk H
           clear H
           have hnb103 := NB225_195.out
           have hnc103 := NB195_225.out
           have hnb104 := NB225_210.out
           have hnc104 := NB210_225.out
           have hnb105 := NB225_217.out
           have hnc105 := NB217_225.out
           have hcz106_0 : wc.cell? ⟨gb225, 0, none⟩ = some (.slice Ao36 t218.length co36) := (blk_cell BK225.out 0).trans rfl
           have hcz106_1 : wc.cell? ⟨gb225, 1, none⟩ = some (.slice Ao41 t221.length co41) := (blk_cell BK225.out 1).trans rfl
           have hfz106_0 := blk_frozen BK225.out 0
           have hfz106_1 := blk_frozen BK225.out 1
           go_upto_region 25 with (first | ((with_reducible refine gate_callee (f := 19) rfl ?_); refine goesL_ (some 68) rfl rfl Try.func19 (by kernel_rfl) rfl #[.agg #[.slice Ao36 t218.length co36, .slice Ao41 t221.length co41], .int .i64 1] rfl (by (try simp only [List.map_toArray, List.map_cons, List.map_nil]); first | done | rfl | (simp only [List.length_drop, List.length_take]; rfl)) ?_; (with_reducible refine (laws_markFlight.calls kj64 (fun k_ => some k_ = (.slice Ao36 t218.length co36 : Value).ownBlock) (.slice Ao36 t218.length co36) t218 (fun k_ => some k_ = (.slice Ao41 t221.length co41 : Value).ownBlock) (.slice Ao41 t221.length co41) t221 1 t238 t239 t240 w _ ?side1 ?side2 ?side3 A96.out).mono ?_); (case side1 => repeat (first | (with_reducible first | exact HB.out | apply below_alloc | apply pw_below_drewN | apply below_drew1 | refine below_set ?_ GE195.out | refine below_set ?_ GE210.out | refine below_set ?_ GE217.out | refine below_set ?_ GE225.out) | exact HB.out)); (case side2 => exact Kd.R_tight rfl HO_226000.out); (case side3 => exact Kd.R_tight rfl HO_226001.out); rintro e w107 ⟨rfl, hy0, hy1, hb, hkp⟩; refine ⟨_, rfl, ?_⟩; replace HO_211000 := Aside0.mk (Kd.R_mono (ok' := fun k_ => nS k_ Ao29 t235.length co29 ∧ nS k_ Ao36 t218.length co36) (Kd.R_keptB ((Kd.R_apart' HO_211000.out (Kd.R_typed HO_226001.out) (by decide))) hkp (fun k_ hk_ hs_ => Or.elim hs_ (fun e_ => (hk_.1.2) e_) (fun e_ => (hk_.2) e_))) (fun k_ hk_ => ⟨hk_.1.1.1, hk_.1.1.2⟩)); replace HO_211001 := Aside0.mk (Kd.R_mono (ok' := fun k_ => nS k_ Ao33 t236.length co33 ∧ nS k_ Ao41 t221.length co41) (Kd.R_keptB ((Kd.R_apart' HO_211001.out (Kd.R_typed HO_226000.out) (by decide))) hkp (fun k_ hk_ hs_ => Or.elim hs_ (fun e_ => (hk_.2) e_) (fun e_ => (hk_.1.2) e_))) (fun k_ hk_ => ⟨hk_.1.1.1, hk_.1.1.2⟩)); replace HO_218000 := Aside0.mk (Kd.R_mono (ok' := fun k_ => nS k_ Ao22 t203.length co22 ∧ nS k_ Ao36 t218.length co36) (Kd.R_keptB ((Kd.R_apart' HO_218000.out (Kd.R_typed HO_226001.out) (by decide))) hkp (fun k_ hk_ hs_ => Or.elim hs_ (fun e_ => (hk_.1.2) e_) (fun e_ => (hk_.2) e_))) (fun k_ hk_ => ⟨hk_.1.1.1, hk_.1.1.2⟩)); replace HO_218001 := Aside0.mk (Kd.R_mono (ok' := fun k_ => nS k_ Ao25 t206.length co25 ∧ nS k_ Ao41 t221.length co41) (Kd.R_keptB ((Kd.R_apart' HO_218001.out (Kd.R_typed HO_226000.out) (by decide))) hkp (fun k_ hk_ hs_ => Or.elim hs_ (fun e_ => (hk_.2) e_) (fun e_ => (hk_.1.2) e_))) (fun k_ hk_ => ⟨hk_.1.1.1, hk_.1.1.2⟩)); replace BK195 := Aside0.mk (blk_kept (xb BK195.out) hkp (fun hs_ => Or.elim hs_ (fun e_ => (fun e_ => (Kd.R_ne HO_226000.out BK195.out (by decide)) e_) e_) (fun e_ => (fun e_ => (Kd.R_ne HO_226001.out BK195.out (by decide)) e_) e_))); replace BK210 := Aside0.mk (blk_kept (xb BK210.out) hkp (fun hs_ => Or.elim hs_ (fun e_ => (fun e_ => (Kd.R_ne HO_226000.out BK210.out (by decide)) e_) e_) (fun e_ => (fun e_ => (Kd.R_ne HO_226001.out BK210.out (by decide)) e_) e_))); replace BK217 := Aside0.mk (blk_kept (xb BK217.out) hkp (fun hs_ => Or.elim hs_ (fun e_ => (fun e_ => (Kd.R_ne HO_226000.out BK217.out (by decide)) e_) e_) (fun e_ => (fun e_ => (Kd.R_ne HO_226001.out BK217.out (by decide)) e_) e_))); replace BK225 := Aside0.mk (blk_kept (xb BK225.out) hkp (fun hs_ => Or.elim hs_ (fun e_ => (fun e_ => (Kd.R_ne HO_226000.out BK225.out (by decide)) e_) e_) (fun e_ => (fun e_ => (Kd.R_ne HO_226001.out BK225.out (by decide)) e_) e_))); replace HO_226000 := Aside0.mk (Kd.R_reok rfl hy0 (fun k_ e_ => HO_226000.out.1 k_ e_)); replace HO_226001 := Aside0.mk (Kd.R_reok rfl hy1 (fun k_ e_ => HO_226001.out.1 k_ e_)); replace HB := Aside0.mk (hb); (try clear hb); (try clear hkp); (try clear hy0); (try clear hy1); have hcz108_0 : w107.cell? ⟨gb225, 0, none⟩ = some (.slice Ao36 t218.length co36) := (blk_cell BK225.out 0).trans rfl; have hcz108_1 : w107.cell? ⟨gb225, 1, none⟩ = some (.slice Ao41 t221.length co41) := (blk_cell BK225.out 1).trans rfl; have hfz108_0 := blk_frozen BK225.out 0; have hfz108_1 := blk_frozen BK225.out 1) | ((with_reducible refine gate_callee (f := 20) rfl ?_); refine goesL_ (some 71) rfl rfl Try.func20 (by kernel_rfl) rfl #[.agg #[.slice Ao36 t239.length co36, .slice Ao41 t240.length co41], .int .i64 1] rfl (by (try simp only [List.map_toArray, List.map_cons, List.map_nil]); first | done | (rw [show t239.length = t218.length from (Kd.R_reads' HO_226000.out).1.symm, show t240.length = t221.length from (Kd.R_reads' HO_226001.out).1.symm] <;> rfl) | rfl | (simp only [List.length_drop, List.length_take]; rfl)) ?_; (with_reducible refine (laws_heldFlight.calls kj64 _ _ t239 _ _ t240 1 t241 _ ?side1 ?side2 ?side3 ?side4 A97.out).mono ?_); (case side1 => exact xd ((Kd.R_reads' HO_226000.out).2.2)); (case side2 => rw [show t239.length = t218.length from (Kd.R_reads' HO_226000.out).1.symm]; exact (Kd.R_reads' HO_226000.out).2.1); (case side3 => exact xd ((Kd.R_reads' HO_226001.out).2.2)); (case side4 => rw [show t240.length = t221.length from (Kd.R_reads' HO_226001.out).1.symm]; exact (Kd.R_reads' HO_226001.out).2.1); rintro e w109 ⟨rfl, hb⟩; refine ⟨_, rfl, ?_⟩; replace HO_211000 := xq HO_211000 hb; replace HO_211001 := xq HO_211001 hb; replace HO_218000 := xq HO_218000 hb; replace HO_218001 := xq HO_218001 hb; replace HO_226000 := xq HO_226000 hb; replace HO_226001 := xq HO_226001 hb; replace BK195 := xk BK195 hb; replace BK210 := xk BK210 hb; replace BK217 := xk BK217 hb; replace BK225 := xk BK225 hb; replace HB := xp HB hb; (try clear hb); (try clear hb2); (try clear hk); (try clear hi); have hnb110 := NB195_210.out; have hnc110 := NB210_195.out; have hnb111 := NB195_217.out; have hnc111 := NB217_195.out; have hcz112_0 : w109.cell? ⟨gb195, 0, none⟩ = some (.slice A0_0 l0_0.length c0_0) := (blk_cell BK195.out 0).trans rfl; have hcz112_1 : w109.cell? ⟨gb195, 1, none⟩ = some (.slice A0_1 l0_1.length c0_1) := (blk_cell BK195.out 1).trans rfl; have hfz112_0 := blk_frozen BK195.out 0; have hfz112_1 := blk_frozen BK195.out 1) | ((with_reducible refine gate_callee (f := 12) rfl ?_); refine goesL_ (some 79) rfl rfl Try.func12 (by kernel_rfl) rfl #[.agg #[.slice A0_0 l0_0.length c0_0, .slice A0_1 l0_1.length c0_1]] rfl (by (try simp only [List.map_toArray, List.map_cons, List.map_nil]); first | done | rfl | (simp only [List.length_drop, List.length_take]; rfl)) ?_; (with_reducible refine (laws_toFlight.calls kj64 _ _ l0_0 _ _ l0_1 t242 t245 _ ?side1 ?side2 ?side3 ?side4 A100.out).mono ?_); (case side1 => exact xd ((Kd.C_below HR0_0.out HB.out))); (case side2 => exact HC0_0.out); (case side3 => exact xd ((Kd.C_below HR0_1.out HB.out))); (case side4 => exact HC0_1.out); rintro e w113 ⟨v243, v246, rfl, ho0, ho1, hb⟩; refine ⟨_, rfl, ?_⟩; have HO244 := Aside0.mk (Kd.R_lower (Kd.R_new' (Kd.R_new' (Kd.R_new' ho0 (Kd.R_lt (xr HO_211000.out))) (Kd.R_lt (xr HO_218000.out))) (Kd.R_lt (xr HO_226000.out))) (below_size (xs HB.out))); replace HO_211000 := Aside0.mk (Kd.R_elder' (xr HO_211000.out) (Kd.R_base ho0) hb); replace HO_218000 := Aside0.mk (Kd.R_elder' (xr HO_218000.out) (Kd.R_base ho0) hb); replace HO_226000 := Aside0.mk (Kd.R_elder' (xr HO_226000.out) (Kd.R_base ho0) hb); have HO247 := Aside0.mk (Kd.R_lower (Kd.R_new' (Kd.R_new' (Kd.R_new' ho1 (Kd.R_lt (xr HO_211001.out))) (Kd.R_lt (xr HO_218001.out))) (Kd.R_lt (xr HO_226001.out))) (below_size (xs HB.out))); replace HO_211001 := Aside0.mk (Kd.R_elder' (xr HO_211001.out) (Kd.R_base ho1) hb); replace HO_218001 := Aside0.mk (Kd.R_elder' (xr HO_218001.out) (Kd.R_base ho1) hb); replace HO_226001 := Aside0.mk (Kd.R_elder' (xr HO_226001.out) (Kd.R_base ho1) hb); replace BK195 := xk BK195 hb; replace BK210 := xk BK210 hb; replace BK217 := xk BK217 hb; replace BK225 := xk BK225 hb; replace HB := xp HB hb; (try clear hb); (try clear hb2); (try clear hk); (try clear hi); (try clear ho0); (try clear ho1); obtain ⟨Ao114, co114, eo114⟩ := Kd.R_slice HO244.out; subst eo114; obtain ⟨Ao115, co115, eo115⟩ := Kd.R_slice HO247.out; subst eo115) | ((with_reducible refine gate_callee (f := 28) rfl ?_); refine goesL_ (some 81) rfl rfl Try.func28 (by kernel_rfl) rfl #[.agg #[.slice Ao114 t242.length co114, .slice Ao115 t245.length co115], .bool a1] rfl (by (try simp only [List.map_toArray, List.map_cons, List.map_nil]); first | done | rfl | (simp only [List.length_drop, List.length_take]; rfl)) ?_; (with_reducible refine (impl_RunShip.calls _ _ t242 _ _ t245 a1 t248 t251 t254 _ ?side1 ?side2 ?side3 ?side4 A101.out).mono ?_); (case side1 => exact xd ((Kd.R_reads' HO244.out).2.2)); (case side2 => exact (Kd.R_reads' HO244.out).2.1); (case side3 => exact xd ((Kd.R_reads' HO247.out).2.2)); (case side4 => exact (Kd.R_reads' HO247.out).2.1); rintro e w116 ⟨v249, v252, rfl, ho0, ho1, hb⟩; refine ⟨_, rfl, ?_⟩; have HO250 := Aside0.mk (Kd.R_lower (Kd.R_new' (Kd.R_new' (Kd.R_new' (Kd.R_new' ho0 (Kd.R_lt (xr HO_211000.out))) (Kd.R_lt (xr HO_218000.out))) (Kd.R_lt (xr HO_226000.out))) (Kd.R_lt (xr HO244.out))) (below_size (xs HB.out))); replace HO_211000 := Aside0.mk (Kd.R_elder' (xr HO_211000.out) (Kd.R_base ho0) hb); replace HO_218000 := Aside0.mk (Kd.R_elder' (xr HO_218000.out) (Kd.R_base ho0) hb); replace HO_226000 := Aside0.mk (Kd.R_elder' (xr HO_226000.out) (Kd.R_base ho0) hb); replace HO244 := Aside0.mk (Kd.R_elder' (xr HO244.out) (Kd.R_base ho0) hb); have HO253 := Aside0.mk (Kd.R_lower (Kd.R_new' (Kd.R_new' (Kd.R_new' (Kd.R_new' ho1 (Kd.R_lt (xr HO_211001.out))) (Kd.R_lt (xr HO_218001.out))) (Kd.R_lt (xr HO_226001.out))) (Kd.R_lt (xr HO247.out))) (below_size (xs HB.out))); replace HO_211001 := Aside0.mk (Kd.R_elder' (xr HO_211001.out) (Kd.R_base ho1) hb); replace HO_218001 := Aside0.mk (Kd.R_elder' (xr HO_218001.out) (Kd.R_base ho1) hb); replace HO_226001 := Aside0.mk (Kd.R_elder' (xr HO_226001.out) (Kd.R_base ho1) hb); replace HO247 := Aside0.mk (Kd.R_elder' (xr HO247.out) (Kd.R_base ho1) hb); replace BK195 := xk BK195 hb; replace BK210 := xk BK210 hb; replace BK217 := xk BK217 hb; replace BK225 := xk BK225 hb; replace HB := xp HB hb; (try clear hb); (try clear hb2); (try clear hk); (try clear hi); (try clear ho0); (try clear ho1)) | ((with_reducible refine gate_dst (N := 14) rfl ?_); refine box_event ?hg (N := 14) ?hd (cs := #[.slice none 0 0, .slice none 0 0]) (t := 29) ?hr ?_; (case hd => rfl); (case hg => rfl); (case hr => first | (go_simp; done) | (go_simp; rfl)); intro gb255 hg w117 hbox hb; replace HO_211000 := xq HO_211000 hb; replace HO_211001 := xq HO_211001 hb; replace HO_218000 := xq HO_218000 hb; replace HO_218001 := xq HO_218001 hb; replace HO_226000 := xq HO_226000 hb; replace HO_226001 := xq HO_226001 hb; replace HO244 := xq HO244 hb; replace HO247 := xq HO247 hb; replace HO250 := xq HO250 hb; replace HO253 := xq HO253 hb; have BK255 := Aside0.mk (hbox); have GW255 := xg HB hg; have GE255 := xg HB hg; replace HB := xp HB hb; have NB195_255 := xl BK195 hg; have NB255_195 := xh BK195 hg; replace BK195 := xk BK195 hb; have NB210_255 := xl BK210 hg; have NB255_210 := xh BK210 hg; replace BK210 := xk BK210 hb; have NB217_255 := xl BK217 hg; have NB255_217 := xh BK217 hg; replace BK217 := xk BK217 hb; have NB225_255 := xl BK225 hg; have NB255_225 := xh BK225 hg; replace BK225 := xk BK225 hb; clear hb hbox hg; obtain ⟨Ao118, co118, eo118⟩ := Kd.R_slice HO250.out; subst eo118; have hnb119 := NB255_195.out; have hnc119 := NB195_255.out; have hnb120 := NB255_210.out; have hnc120 := NB210_255.out; have hnb121 := NB255_217.out; have hnc121 := NB217_255.out; have hnb122 := NB255_225.out; have hnc122 := NB225_255.out; have hcz123_0 : w117.cell? ⟨gb255, 0, none⟩ = some (.slice none 0 0) := (blk_cell BK255.out 0).trans rfl; have hcz123_1 : w117.cell? ⟨gb255, 1, none⟩ = some (.slice none 0 0) := (blk_cell BK255.out 1).trans rfl; have hfz123_0 := blk_frozen BK255.out 0; have hfz123_1 := blk_frozen BK255.out 1; obtain ⟨Ao124, co124, eo124⟩ := Kd.R_slice HO253.out; subst eo124))
           (try simp only [Act.put, List.setIfInBounds_toArray, List.set_cons_zero, List.set_cons_succ])
           go_cut [92] (fun v92 wc => ∃ (kq : Nat) (x92_101 : Bool), v92 = .bool x92_101 ∧ Aside0 (laws_FnExactRunShip.j2 kq t238 x92_101 t239 t240 = some true) ∧ Aside0 (kq ≤ kj64) ∧ Aside0 (Kd.R (Kd.int .i64) 3 wc w.heap.size (fun k_ => nS k_ Ao29 t235.length co29 ∧ nS k_ Ao36 t218.length co36 ∧ nS k_ Ao118 t248.length co118) (.slice Ao22 t203.length co22) t203) ∧ Aside0 (Kd.R Kd.bool 4 wc w.heap.size (fun k_ => nS k_ Ao33 t236.length co33 ∧ nS k_ Ao41 t221.length co41 ∧ nS k_ Ao124 t251.length co124) (.slice Ao25 t206.length co25) t206) ∧ Aside0 (Kd.R (Kd.int .i64) 3 wc w.heap.size (fun k_ => nS k_ Ao22 t203.length co22 ∧ nS k_ Ao36 t218.length co36 ∧ nS k_ Ao118 t248.length co118) (.slice Ao29 t235.length co29) t235) ∧ Aside0 (Kd.R Kd.bool 4 wc w.heap.size (fun k_ => nS k_ Ao25 t206.length co25 ∧ nS k_ Ao41 t221.length co41 ∧ nS k_ Ao124 t251.length co124) (.slice Ao33 t236.length co33) t236) ∧ Aside0 (Kd.R (Kd.int .i64) 3 wc w.heap.size (fun k_ => nS k_ Ao22 t203.length co22 ∧ nS k_ Ao29 t235.length co29 ∧ nS k_ Ao118 t248.length co118) (.slice Ao36 t218.length co36) t239) ∧ Aside0 (Kd.R Kd.bool 4 wc w.heap.size (fun k_ => nS k_ Ao25 t206.length co25 ∧ nS k_ Ao33 t236.length co33 ∧ nS k_ Ao124 t251.length co124) (.slice Ao41 t221.length co41) t240) ∧ Aside0 (Kd.R (Kd.int .i64) 3 wc w.heap.size (fun k_ => nS k_ Ao22 t203.length co22 ∧ nS k_ Ao29 t235.length co29 ∧ nS k_ Ao36 t218.length co36) (.slice Ao118 t248.length co118) t248) ∧ Aside0 (Kd.R Kd.bool 4 wc w.heap.size (fun k_ => nS k_ Ao25 t206.length co25 ∧ nS k_ Ao33 t236.length co33 ∧ nS k_ Ao41 t221.length co41) (.slice Ao124 t251.length co124) t251) ∧ Aside0 (wc.heap[gb195]? = some (.cells #[(.slice A0_0 l0_0.length c0_0), (.slice A0_1 l0_1.length c0_1)] 25 (0, 0))) ∧ Aside0 (wc.heap[gb210]? = some (.cells #[(.slice Ao22 t203.length co22), (.slice Ao25 t206.length co25)] 29 (0, 0))) ∧ Aside0 (wc.heap[gb217]? = some (.cells #[(.slice Ao29 t235.length co29), (.slice Ao33 t236.length co33)] 29 (0, 0))) ∧ Aside0 (wc.heap[gb225]? = some (.cells #[(.slice Ao36 t218.length co36), (.slice Ao41 t221.length co41)] 29 (0, 0))) ∧ Aside0 (wc.heap[gb255]? = some (.cells #[(.slice Ao118 t248.length co118), (.slice Ao124 t251.length co124)] 29 (0, 0))) ∧ Aside0 (Below w.heap.size w wc))
           case first =>
            have H := HC102.out
            clear HC102
            replace H := Option.bind_eq_some_iff.mp H
            obtain ⟨t256, A1250, H⟩ := H
            replace H : (if t256 = true then (laws_FnExactRunShip.j2 kj64 t238 (t254 != t209) t239 t240) else (laws_FnExactRunShip.j2 kj64 t238 true t239 t240)) = some true := H
            have A125 := Aside0.mk A1250
            clear A1250
            by_cases c126 : t256 = true
            ·subst c126
             have H1 : (laws_FnExactRunShip.j2 kj64 t238 (t254 != t209) t239 t240) = some true := by first | (rw [if_pos rfl] at H; exact H) | rfl
             clear H
             have H := H1
             clear H1
             have H' := Aside0.mk H
             clear H
             have hnb127 := NB255_195.out
             have hnc127 := NB195_255.out
             have hnb128 := NB255_210.out
             have hnc128 := NB210_255.out
             have hnb129 := NB255_217.out
             have hnc129 := NB217_255.out
             have hnb130 := NB255_225.out
             have hnc130 := NB225_255.out
             have hcz131_0 : w117.cell? ⟨gb255, 0, none⟩ = some (.slice none 0 0) := (blk_cell BK255.out 0).trans rfl
             have hcz131_1 : w117.cell? ⟨gb255, 1, none⟩ = some (.slice none 0 0) := (blk_cell BK255.out 1).trans rfl
             have hfz131_0 := blk_frozen BK255.out 0
             have hfz131_1 := blk_frozen BK255.out 1
             have hnb132 := NB210_195.out
             have hnc132 := NB195_210.out
             have hnb133 := NB210_217.out
             have hnc133 := NB217_210.out
             have hnb134 := NB210_225.out
             have hnc134 := NB225_210.out
             have hcz135_0 : w117.cell? ⟨gb210, 0, none⟩ = some (.slice Ao22 t203.length co22) := (blk_cell BK210.out 0).trans rfl
             have hcz135_1 : w117.cell? ⟨gb210, 1, none⟩ = some (.slice Ao25 t206.length co25) := (blk_cell BK210.out 1).trans rfl
             have hfz135_0 := blk_frozen BK210.out 0
             have hfz135_1 := blk_frozen BK210.out 1
             go_wp2_with (first | ((with_reducible refine gate_callee (f := 14) rfl ?_); refine goesL_ (some 86) rfl rfl Try.func14 (by kernel_rfl) rfl #[.agg #[.slice Ao118 t248.length co118, .slice Ao124 t251.length co124], .agg #[.slice Ao22 t203.length co22, .slice Ao25 t206.length co25]] rfl (by (try simp only [List.map_toArray, List.map_cons, List.map_nil]); first | done | rfl | (simp only [List.length_drop, List.length_take]; rfl)) ?_; (with_reducible refine (laws_eqFlight.calls kj64 _ _ t248 _ _ t251 _ _ t203 _ _ t206 true _ ?side1 ?side2 ?side3 ?side4 ?side5 ?side6 ?side7 ?side8 A125.out).mono ?_); (case side1 => refine (Kd.R_reads' (e := 3) (base := w.heap.size) (ok := fun k_ => ((((True ∧ nS k_ Ao22 t203.length co22) ∧ nS k_ Ao29 t235.length co29) ∧ nS k_ Ao36 t218.length co36) ∧ nS k_ Ao114 t242.length co114)) (n := t248.length) (c := co118) ?_).2.2; exact (by (with_reducible repeat (first | apply Kd.R_alloc | apply Kd.R_drewN | apply Kd.R_drew)); exact (Kd.R_mono (Kd.R_far (p := ⟨gb255, 1, none⟩) (Kd.R_far (p := ⟨gb255, 0, none⟩) (Kd.R_types HO250.out BK255.out (by decide)) (fun _ hk => hk.2) (.slice Ao118 t248.length co118)) (fun _ hk => hk.2) (.slice Ao124 t251.length co124)) (fun _ h_ => h_.1)))); (case side2 => exact (Kd.R_reads' HO250.out).2.1); (case side3 => refine (Kd.R_reads' (e := 4) (base := w.heap.size) (ok := fun k_ => ((((True ∧ nS k_ Ao25 t206.length co25) ∧ nS k_ Ao33 t236.length co33) ∧ nS k_ Ao41 t221.length co41) ∧ nS k_ Ao115 t245.length co115)) (n := t251.length) (c := co124) ?_).2.2; exact (by (with_reducible repeat (first | apply Kd.R_alloc | apply Kd.R_drewN | apply Kd.R_drew)); exact (Kd.R_mono (Kd.R_far (p := ⟨gb255, 1, none⟩) (Kd.R_far (p := ⟨gb255, 0, none⟩) (Kd.R_types HO253.out BK255.out (by decide)) (fun _ hk => hk.2) (.slice Ao118 t248.length co118)) (fun _ hk => hk.2) (.slice Ao124 t251.length co124)) (fun _ h_ => h_.1)))); (case side4 => exact (Kd.R_reads' HO253.out).2.1); (case side5 => refine (Kd.R_reads' (e := 3) (base := w.heap.size) (ok := fun k_ => (((nS k_ Ao29 t235.length co29 ∧ nS k_ Ao36 t218.length co36) ∧ nS k_ Ao114 t242.length co114) ∧ nS k_ Ao118 t248.length co118)) (n := t203.length) (c := co22) ?_).2.2; exact (by (with_reducible repeat (first | apply Kd.R_alloc | apply Kd.R_drewN | apply Kd.R_drew)); exact (Kd.R_mono (Kd.R_far (p := ⟨gb255, 1, none⟩) (Kd.R_far (p := ⟨gb255, 0, none⟩) (Kd.R_types HO_211000.out BK255.out (by decide)) (fun _ hk => hk.2) (.slice Ao118 t248.length co118)) (fun _ hk => hk.2) (.slice Ao124 t251.length co124)) (fun _ h_ => h_.1)))); (case side6 => exact (Kd.R_reads' HO_211000.out).2.1); (case side7 => refine (Kd.R_reads' (e := 4) (base := w.heap.size) (ok := fun k_ => (((nS k_ Ao33 t236.length co33 ∧ nS k_ Ao41 t221.length co41) ∧ nS k_ Ao115 t245.length co115) ∧ nS k_ Ao124 t251.length co124)) (n := t206.length) (c := co25) ?_).2.2; exact (by (with_reducible repeat (first | apply Kd.R_alloc | apply Kd.R_drewN | apply Kd.R_drew)); exact (Kd.R_mono (Kd.R_far (p := ⟨gb255, 1, none⟩) (Kd.R_far (p := ⟨gb255, 0, none⟩) (Kd.R_types HO_211001.out BK255.out (by decide)) (fun _ hk => hk.2) (.slice Ao118 t248.length co118)) (fun _ hk => hk.2) (.slice Ao124 t251.length co124)) (fun _ h_ => h_.1)))); (case side8 => exact (Kd.R_reads' HO_211001.out).2.1); rintro e w136 ⟨rfl, hb⟩; refine ⟨_, rfl, ?_⟩; replace HO_211000 := Aside0.mk (Kd.R_below (by (with_reducible repeat (first | apply Kd.R_alloc | apply Kd.R_drewN | apply Kd.R_drew)); exact (Kd.R_mono (Kd.R_far (p := ⟨gb255, 1, none⟩) (Kd.R_far (p := ⟨gb255, 0, none⟩) (Kd.R_types HO_211000.out BK255.out (by decide)) (fun _ hk => hk.2) (.slice Ao118 t248.length co118)) (fun _ hk => hk.2) (.slice Ao124 t251.length co124)) (fun _ h_ => h_.1))) hb); replace HO_211001 := Aside0.mk (Kd.R_below (by (with_reducible repeat (first | apply Kd.R_alloc | apply Kd.R_drewN | apply Kd.R_drew)); exact (Kd.R_mono (Kd.R_far (p := ⟨gb255, 1, none⟩) (Kd.R_far (p := ⟨gb255, 0, none⟩) (Kd.R_types HO_211001.out BK255.out (by decide)) (fun _ hk => hk.2) (.slice Ao118 t248.length co118)) (fun _ hk => hk.2) (.slice Ao124 t251.length co124)) (fun _ h_ => h_.1))) hb); replace HO_218000 := Aside0.mk (Kd.R_below (by (with_reducible repeat (first | apply Kd.R_alloc | apply Kd.R_drewN | apply Kd.R_drew)); exact (Kd.R_mono (Kd.R_far (p := ⟨gb255, 1, none⟩) (Kd.R_far (p := ⟨gb255, 0, none⟩) (Kd.R_types HO_218000.out BK255.out (by decide)) (fun _ hk => hk.2) (.slice Ao118 t248.length co118)) (fun _ hk => hk.2) (.slice Ao124 t251.length co124)) (fun _ h_ => h_.1))) hb); replace HO_218001 := Aside0.mk (Kd.R_below (by (with_reducible repeat (first | apply Kd.R_alloc | apply Kd.R_drewN | apply Kd.R_drew)); exact (Kd.R_mono (Kd.R_far (p := ⟨gb255, 1, none⟩) (Kd.R_far (p := ⟨gb255, 0, none⟩) (Kd.R_types HO_218001.out BK255.out (by decide)) (fun _ hk => hk.2) (.slice Ao118 t248.length co118)) (fun _ hk => hk.2) (.slice Ao124 t251.length co124)) (fun _ h_ => h_.1))) hb); replace HO_226000 := Aside0.mk (Kd.R_below (by (with_reducible repeat (first | apply Kd.R_alloc | apply Kd.R_drewN | apply Kd.R_drew)); exact (Kd.R_mono (Kd.R_far (p := ⟨gb255, 1, none⟩) (Kd.R_far (p := ⟨gb255, 0, none⟩) (Kd.R_types HO_226000.out BK255.out (by decide)) (fun _ hk => hk.2) (.slice Ao118 t248.length co118)) (fun _ hk => hk.2) (.slice Ao124 t251.length co124)) (fun _ h_ => h_.1))) hb); replace HO_226001 := Aside0.mk (Kd.R_below (by (with_reducible repeat (first | apply Kd.R_alloc | apply Kd.R_drewN | apply Kd.R_drew)); exact (Kd.R_mono (Kd.R_far (p := ⟨gb255, 1, none⟩) (Kd.R_far (p := ⟨gb255, 0, none⟩) (Kd.R_types HO_226001.out BK255.out (by decide)) (fun _ hk => hk.2) (.slice Ao118 t248.length co118)) (fun _ hk => hk.2) (.slice Ao124 t251.length co124)) (fun _ h_ => h_.1))) hb); replace HO244 := Aside0.mk (Kd.R_below (by (with_reducible repeat (first | apply Kd.R_alloc | apply Kd.R_drewN | apply Kd.R_drew)); exact (Kd.R_mono (Kd.R_far (p := ⟨gb255, 1, none⟩) (Kd.R_far (p := ⟨gb255, 0, none⟩) (Kd.R_types HO244.out BK255.out (by decide)) (fun _ hk => hk.2) (.slice Ao118 t248.length co118)) (fun _ hk => hk.2) (.slice Ao124 t251.length co124)) (fun _ h_ => h_.1))) hb); replace HO247 := Aside0.mk (Kd.R_below (by (with_reducible repeat (first | apply Kd.R_alloc | apply Kd.R_drewN | apply Kd.R_drew)); exact (Kd.R_mono (Kd.R_far (p := ⟨gb255, 1, none⟩) (Kd.R_far (p := ⟨gb255, 0, none⟩) (Kd.R_types HO247.out BK255.out (by decide)) (fun _ hk => hk.2) (.slice Ao118 t248.length co118)) (fun _ hk => hk.2) (.slice Ao124 t251.length co124)) (fun _ h_ => h_.1))) hb); replace HO250 := Aside0.mk (Kd.R_below (by (with_reducible repeat (first | apply Kd.R_alloc | apply Kd.R_drewN | apply Kd.R_drew)); exact (Kd.R_mono (Kd.R_far (p := ⟨gb255, 1, none⟩) (Kd.R_far (p := ⟨gb255, 0, none⟩) (Kd.R_types HO250.out BK255.out (by decide)) (fun _ hk => hk.2) (.slice Ao118 t248.length co118)) (fun _ hk => hk.2) (.slice Ao124 t251.length co124)) (fun _ h_ => h_.1))) hb); replace HO253 := Aside0.mk (Kd.R_below (by (with_reducible repeat (first | apply Kd.R_alloc | apply Kd.R_drewN | apply Kd.R_drew)); exact (Kd.R_mono (Kd.R_far (p := ⟨gb255, 1, none⟩) (Kd.R_far (p := ⟨gb255, 0, none⟩) (Kd.R_types HO253.out BK255.out (by decide)) (fun _ hk => hk.2) (.slice Ao118 t248.length co118)) (fun _ hk => hk.2) (.slice Ao124 t251.length co124)) (fun _ h_ => h_.1))) hb); replace BK195 := Aside0.mk (blk_below (g := gb195) (o := .cells #[.slice A0_0 l0_0.length c0_0, .slice A0_1 l0_1.length c0_1] 25 (0, 0)) (xff NB195_255.out NB195_255.out BK195.out) hb); replace BK210 := Aside0.mk (blk_below (g := gb210) (o := .cells #[.slice Ao22 t203.length co22, .slice Ao25 t206.length co25] 29 (0, 0)) (xff NB210_255.out NB210_255.out BK210.out) hb); replace BK217 := Aside0.mk (blk_below (g := gb217) (o := .cells #[.slice Ao29 t235.length co29, .slice Ao33 t236.length co33] 29 (0, 0)) (xff NB217_255.out NB217_255.out BK217.out) hb); replace BK225 := Aside0.mk (blk_below (g := gb225) (o := .cells #[.slice Ao36 t218.length co36, .slice Ao41 t221.length co41] 29 (0, 0)) (xff NB225_255.out NB225_255.out BK225.out) hb); replace BK255 := Aside0.mk (blk_below (g := gb255) (o := .cells #[.slice Ao118 t248.length co118, .slice Ao124 t251.length co124] 29 (0, 0)) (by (with_reducible repeat (first | refine blk_drewN ?_ _ | refine blk_drew ?_ | refine blk_alloc ?_ _)); refine blk_put (cs := #[.slice Ao118 t248.length co118, .slice none 0 0]) ?_ 1 _ rfl; (with_reducible repeat (first | refine blk_drewN ?_ _ | refine blk_drew ?_ | refine blk_alloc ?_ _)); refine blk_put (cs := #[.slice none 0 0, .slice none 0 0]) ?_ 0 _ rfl; (with_reducible repeat (first | refine blk_drewN ?_ _ | refine blk_drew ?_ | refine blk_alloc ?_ _)); exact BK255.out) hb); replace HB := xp HB hb; (try clear hb); (try clear hb2); (try clear hk); (try clear hi)))
             go_meet
             case rel => exact ⟨_, ((t254 != t209)), (by first | rfl | (simp; done) | (simp [*]; done)), H', ⟨by have := HJ11.out; have := HJ64.out; first | omega | exact Nat.le_refl _⟩, ⟨by (try simp only [hl218000_64]); (try simp only [hl218001_64]); (with_reducible repeat (first | apply Kd.R_alloc | apply Kd.R_drewN | apply Kd.R_drew)); exact Kd.R_mono HO_211000.out (fun _ hk => ⟨hk.1.1.1, ⟨hk.1.1.2, hk.2⟩⟩)⟩, ⟨by (try simp only [hl218000_64]); (try simp only [hl218001_64]); (with_reducible repeat (first | apply Kd.R_alloc | apply Kd.R_drewN | apply Kd.R_drew)); exact Kd.R_mono HO_211001.out (fun _ hk => ⟨hk.1.1.1, ⟨hk.1.1.2, hk.2⟩⟩)⟩, ⟨by (try simp only [hl218000_64]); (try simp only [hl218001_64]); (with_reducible repeat (first | apply Kd.R_alloc | apply Kd.R_drewN | apply Kd.R_drew)); exact Kd.R_mono HO_218000.out (fun _ hk => ⟨hk.1.1.1, ⟨hk.1.1.2, hk.2⟩⟩)⟩, ⟨by (try simp only [hl218000_64]); (try simp only [hl218001_64]); (with_reducible repeat (first | apply Kd.R_alloc | apply Kd.R_drewN | apply Kd.R_drew)); exact Kd.R_mono HO_218001.out (fun _ hk => ⟨hk.1.1.1, ⟨hk.1.1.2, hk.2⟩⟩)⟩, ⟨by (try simp only [hl218000_64]); (try simp only [hl218001_64]); (with_reducible repeat (first | apply Kd.R_alloc | apply Kd.R_drewN | apply Kd.R_drew)); exact Kd.R_mono HO_226000.out (fun _ hk => ⟨hk.1.1.1, ⟨hk.1.1.2, hk.2⟩⟩)⟩, ⟨by (try simp only [hl218000_64]); (try simp only [hl218001_64]); (with_reducible repeat (first | apply Kd.R_alloc | apply Kd.R_drewN | apply Kd.R_drew)); exact Kd.R_mono HO_226001.out (fun _ hk => ⟨hk.1.1.1, ⟨hk.1.1.2, hk.2⟩⟩)⟩, ⟨by (try simp only [hl218000_64]); (try simp only [hl218001_64]); (with_reducible repeat (first | apply Kd.R_alloc | apply Kd.R_drewN | apply Kd.R_drew)); exact Kd.R_mono HO250.out (fun _ hk => ⟨hk.1.1.1.2, ⟨hk.1.1.2, hk.1.2⟩⟩)⟩, ⟨by (try simp only [hl218000_64]); (try simp only [hl218001_64]); (with_reducible repeat (first | apply Kd.R_alloc | apply Kd.R_drewN | apply Kd.R_drew)); exact Kd.R_mono HO253.out (fun _ hk => ⟨hk.1.1.1.2, ⟨hk.1.1.2, hk.1.2⟩⟩)⟩, ⟨by (try simp only [hl218000_64]); (try simp only [hl218001_64]); (with_reducible repeat (first | refine blk_drewN ?_ _ | refine blk_drew ?_ | refine blk_alloc ?_ _)); exact BK195.out⟩, ⟨by (try simp only [hl218000_64]); (try simp only [hl218001_64]); (with_reducible repeat (first | refine blk_drewN ?_ _ | refine blk_drew ?_ | refine blk_alloc ?_ _)); exact BK210.out⟩, ⟨by (try simp only [hl218000_64]); (try simp only [hl218001_64]); (with_reducible repeat (first | refine blk_drewN ?_ _ | refine blk_drew ?_ | refine blk_alloc ?_ _)); exact BK217.out⟩, ⟨by (try simp only [hl218000_64]); (try simp only [hl218001_64]); (with_reducible repeat (first | refine blk_drewN ?_ _ | refine blk_drew ?_ | refine blk_alloc ?_ _)); exact BK225.out⟩, ⟨by (try simp only [hl218000_64]); (try simp only [hl218001_64]); (with_reducible repeat (first | refine blk_drewN ?_ _ | refine blk_drew ?_ | refine blk_alloc ?_ _)); exact BK255.out⟩, ⟨xs HB.out⟩⟩
            ·replace c126 := Bool.eq_false_iff.mpr c126
             subst c126
             have H1 : (laws_FnExactRunShip.j2 kj64 t238 true t239 t240) = some true := by first | (rw [if_neg (show ¬ (false = true) by decide)] at H; exact H) | rfl
             clear H
             have H := H1
             clear H1
             have H' := Aside0.mk H
             clear H
             have hnb137 := NB255_195.out
             have hnc137 := NB195_255.out
             have hnb138 := NB255_210.out
             have hnc138 := NB210_255.out
             have hnb139 := NB255_217.out
             have hnc139 := NB217_255.out
             have hnb140 := NB255_225.out
             have hnc140 := NB225_255.out
             have hcz141_0 : w117.cell? ⟨gb255, 0, none⟩ = some (.slice none 0 0) := (blk_cell BK255.out 0).trans rfl
             have hcz141_1 : w117.cell? ⟨gb255, 1, none⟩ = some (.slice none 0 0) := (blk_cell BK255.out 1).trans rfl
             have hfz141_0 := blk_frozen BK255.out 0
             have hfz141_1 := blk_frozen BK255.out 1
             have hnb142 := NB210_195.out
             have hnc142 := NB195_210.out
             have hnb143 := NB210_217.out
             have hnc143 := NB217_210.out
             have hnb144 := NB210_225.out
             have hnc144 := NB225_210.out
             have hcz145_0 : w117.cell? ⟨gb210, 0, none⟩ = some (.slice Ao22 t203.length co22) := (blk_cell BK210.out 0).trans rfl
             have hcz145_1 : w117.cell? ⟨gb210, 1, none⟩ = some (.slice Ao25 t206.length co25) := (blk_cell BK210.out 1).trans rfl
             have hfz145_0 := blk_frozen BK210.out 0
             have hfz145_1 := blk_frozen BK210.out 1
             go_wp2_with (first | ((with_reducible refine gate_callee (f := 14) rfl ?_); refine goesL_ (some 86) rfl rfl Try.func14 (by kernel_rfl) rfl #[.agg #[.slice Ao118 t248.length co118, .slice Ao124 t251.length co124], .agg #[.slice Ao22 t203.length co22, .slice Ao25 t206.length co25]] rfl (by (try simp only [List.map_toArray, List.map_cons, List.map_nil]); first | done | rfl | (simp only [List.length_drop, List.length_take]; rfl)) ?_; (with_reducible refine (laws_eqFlight.calls kj64 _ _ t248 _ _ t251 _ _ t203 _ _ t206 false _ ?side1 ?side2 ?side3 ?side4 ?side5 ?side6 ?side7 ?side8 A125.out).mono ?_); (case side1 => refine (Kd.R_reads' (e := 3) (base := w.heap.size) (ok := fun k_ => ((((True ∧ nS k_ Ao22 t203.length co22) ∧ nS k_ Ao29 t235.length co29) ∧ nS k_ Ao36 t218.length co36) ∧ nS k_ Ao114 t242.length co114)) (n := t248.length) (c := co118) ?_).2.2; exact (by (with_reducible repeat (first | apply Kd.R_alloc | apply Kd.R_drewN | apply Kd.R_drew)); exact (Kd.R_mono (Kd.R_far (p := ⟨gb255, 1, none⟩) (Kd.R_far (p := ⟨gb255, 0, none⟩) (Kd.R_types HO250.out BK255.out (by decide)) (fun _ hk => hk.2) (.slice Ao118 t248.length co118)) (fun _ hk => hk.2) (.slice Ao124 t251.length co124)) (fun _ h_ => h_.1)))); (case side2 => exact (Kd.R_reads' HO250.out).2.1); (case side3 => refine (Kd.R_reads' (e := 4) (base := w.heap.size) (ok := fun k_ => ((((True ∧ nS k_ Ao25 t206.length co25) ∧ nS k_ Ao33 t236.length co33) ∧ nS k_ Ao41 t221.length co41) ∧ nS k_ Ao115 t245.length co115)) (n := t251.length) (c := co124) ?_).2.2; exact (by (with_reducible repeat (first | apply Kd.R_alloc | apply Kd.R_drewN | apply Kd.R_drew)); exact (Kd.R_mono (Kd.R_far (p := ⟨gb255, 1, none⟩) (Kd.R_far (p := ⟨gb255, 0, none⟩) (Kd.R_types HO253.out BK255.out (by decide)) (fun _ hk => hk.2) (.slice Ao118 t248.length co118)) (fun _ hk => hk.2) (.slice Ao124 t251.length co124)) (fun _ h_ => h_.1)))); (case side4 => exact (Kd.R_reads' HO253.out).2.1); (case side5 => refine (Kd.R_reads' (e := 3) (base := w.heap.size) (ok := fun k_ => (((nS k_ Ao29 t235.length co29 ∧ nS k_ Ao36 t218.length co36) ∧ nS k_ Ao114 t242.length co114) ∧ nS k_ Ao118 t248.length co118)) (n := t203.length) (c := co22) ?_).2.2; exact (by (with_reducible repeat (first | apply Kd.R_alloc | apply Kd.R_drewN | apply Kd.R_drew)); exact (Kd.R_mono (Kd.R_far (p := ⟨gb255, 1, none⟩) (Kd.R_far (p := ⟨gb255, 0, none⟩) (Kd.R_types HO_211000.out BK255.out (by decide)) (fun _ hk => hk.2) (.slice Ao118 t248.length co118)) (fun _ hk => hk.2) (.slice Ao124 t251.length co124)) (fun _ h_ => h_.1)))); (case side6 => exact (Kd.R_reads' HO_211000.out).2.1); (case side7 => refine (Kd.R_reads' (e := 4) (base := w.heap.size) (ok := fun k_ => (((nS k_ Ao33 t236.length co33 ∧ nS k_ Ao41 t221.length co41) ∧ nS k_ Ao115 t245.length co115) ∧ nS k_ Ao124 t251.length co124)) (n := t206.length) (c := co25) ?_).2.2; exact (by (with_reducible repeat (first | apply Kd.R_alloc | apply Kd.R_drewN | apply Kd.R_drew)); exact (Kd.R_mono (Kd.R_far (p := ⟨gb255, 1, none⟩) (Kd.R_far (p := ⟨gb255, 0, none⟩) (Kd.R_types HO_211001.out BK255.out (by decide)) (fun _ hk => hk.2) (.slice Ao118 t248.length co118)) (fun _ hk => hk.2) (.slice Ao124 t251.length co124)) (fun _ h_ => h_.1)))); (case side8 => exact (Kd.R_reads' HO_211001.out).2.1); rintro e w146 ⟨rfl, hb⟩; refine ⟨_, rfl, ?_⟩; replace HO_211000 := Aside0.mk (Kd.R_below (by (with_reducible repeat (first | apply Kd.R_alloc | apply Kd.R_drewN | apply Kd.R_drew)); exact (Kd.R_mono (Kd.R_far (p := ⟨gb255, 1, none⟩) (Kd.R_far (p := ⟨gb255, 0, none⟩) (Kd.R_types HO_211000.out BK255.out (by decide)) (fun _ hk => hk.2) (.slice Ao118 t248.length co118)) (fun _ hk => hk.2) (.slice Ao124 t251.length co124)) (fun _ h_ => h_.1))) hb); replace HO_211001 := Aside0.mk (Kd.R_below (by (with_reducible repeat (first | apply Kd.R_alloc | apply Kd.R_drewN | apply Kd.R_drew)); exact (Kd.R_mono (Kd.R_far (p := ⟨gb255, 1, none⟩) (Kd.R_far (p := ⟨gb255, 0, none⟩) (Kd.R_types HO_211001.out BK255.out (by decide)) (fun _ hk => hk.2) (.slice Ao118 t248.length co118)) (fun _ hk => hk.2) (.slice Ao124 t251.length co124)) (fun _ h_ => h_.1))) hb); replace HO_218000 := Aside0.mk (Kd.R_below (by (with_reducible repeat (first | apply Kd.R_alloc | apply Kd.R_drewN | apply Kd.R_drew)); exact (Kd.R_mono (Kd.R_far (p := ⟨gb255, 1, none⟩) (Kd.R_far (p := ⟨gb255, 0, none⟩) (Kd.R_types HO_218000.out BK255.out (by decide)) (fun _ hk => hk.2) (.slice Ao118 t248.length co118)) (fun _ hk => hk.2) (.slice Ao124 t251.length co124)) (fun _ h_ => h_.1))) hb); replace HO_218001 := Aside0.mk (Kd.R_below (by (with_reducible repeat (first | apply Kd.R_alloc | apply Kd.R_drewN | apply Kd.R_drew)); exact (Kd.R_mono (Kd.R_far (p := ⟨gb255, 1, none⟩) (Kd.R_far (p := ⟨gb255, 0, none⟩) (Kd.R_types HO_218001.out BK255.out (by decide)) (fun _ hk => hk.2) (.slice Ao118 t248.length co118)) (fun _ hk => hk.2) (.slice Ao124 t251.length co124)) (fun _ h_ => h_.1))) hb); replace HO_226000 := Aside0.mk (Kd.R_below (by (with_reducible repeat (first | apply Kd.R_alloc | apply Kd.R_drewN | apply Kd.R_drew)); exact (Kd.R_mono (Kd.R_far (p := ⟨gb255, 1, none⟩) (Kd.R_far (p := ⟨gb255, 0, none⟩) (Kd.R_types HO_226000.out BK255.out (by decide)) (fun _ hk => hk.2) (.slice Ao118 t248.length co118)) (fun _ hk => hk.2) (.slice Ao124 t251.length co124)) (fun _ h_ => h_.1))) hb); replace HO_226001 := Aside0.mk (Kd.R_below (by (with_reducible repeat (first | apply Kd.R_alloc | apply Kd.R_drewN | apply Kd.R_drew)); exact (Kd.R_mono (Kd.R_far (p := ⟨gb255, 1, none⟩) (Kd.R_far (p := ⟨gb255, 0, none⟩) (Kd.R_types HO_226001.out BK255.out (by decide)) (fun _ hk => hk.2) (.slice Ao118 t248.length co118)) (fun _ hk => hk.2) (.slice Ao124 t251.length co124)) (fun _ h_ => h_.1))) hb); replace HO244 := Aside0.mk (Kd.R_below (by (with_reducible repeat (first | apply Kd.R_alloc | apply Kd.R_drewN | apply Kd.R_drew)); exact (Kd.R_mono (Kd.R_far (p := ⟨gb255, 1, none⟩) (Kd.R_far (p := ⟨gb255, 0, none⟩) (Kd.R_types HO244.out BK255.out (by decide)) (fun _ hk => hk.2) (.slice Ao118 t248.length co118)) (fun _ hk => hk.2) (.slice Ao124 t251.length co124)) (fun _ h_ => h_.1))) hb); replace HO247 := Aside0.mk (Kd.R_below (by (with_reducible repeat (first | apply Kd.R_alloc | apply Kd.R_drewN | apply Kd.R_drew)); exact (Kd.R_mono (Kd.R_far (p := ⟨gb255, 1, none⟩) (Kd.R_far (p := ⟨gb255, 0, none⟩) (Kd.R_types HO247.out BK255.out (by decide)) (fun _ hk => hk.2) (.slice Ao118 t248.length co118)) (fun _ hk => hk.2) (.slice Ao124 t251.length co124)) (fun _ h_ => h_.1))) hb); replace HO250 := Aside0.mk (Kd.R_below (by (with_reducible repeat (first | apply Kd.R_alloc | apply Kd.R_drewN | apply Kd.R_drew)); exact (Kd.R_mono (Kd.R_far (p := ⟨gb255, 1, none⟩) (Kd.R_far (p := ⟨gb255, 0, none⟩) (Kd.R_types HO250.out BK255.out (by decide)) (fun _ hk => hk.2) (.slice Ao118 t248.length co118)) (fun _ hk => hk.2) (.slice Ao124 t251.length co124)) (fun _ h_ => h_.1))) hb); replace HO253 := Aside0.mk (Kd.R_below (by (with_reducible repeat (first | apply Kd.R_alloc | apply Kd.R_drewN | apply Kd.R_drew)); exact (Kd.R_mono (Kd.R_far (p := ⟨gb255, 1, none⟩) (Kd.R_far (p := ⟨gb255, 0, none⟩) (Kd.R_types HO253.out BK255.out (by decide)) (fun _ hk => hk.2) (.slice Ao118 t248.length co118)) (fun _ hk => hk.2) (.slice Ao124 t251.length co124)) (fun _ h_ => h_.1))) hb); replace BK195 := Aside0.mk (blk_below (g := gb195) (o := .cells #[.slice A0_0 l0_0.length c0_0, .slice A0_1 l0_1.length c0_1] 25 (0, 0)) (xff NB195_255.out NB195_255.out BK195.out) hb); replace BK210 := Aside0.mk (blk_below (g := gb210) (o := .cells #[.slice Ao22 t203.length co22, .slice Ao25 t206.length co25] 29 (0, 0)) (xff NB210_255.out NB210_255.out BK210.out) hb); replace BK217 := Aside0.mk (blk_below (g := gb217) (o := .cells #[.slice Ao29 t235.length co29, .slice Ao33 t236.length co33] 29 (0, 0)) (xff NB217_255.out NB217_255.out BK217.out) hb); replace BK225 := Aside0.mk (blk_below (g := gb225) (o := .cells #[.slice Ao36 t218.length co36, .slice Ao41 t221.length co41] 29 (0, 0)) (xff NB225_255.out NB225_255.out BK225.out) hb); replace BK255 := Aside0.mk (blk_below (g := gb255) (o := .cells #[.slice Ao118 t248.length co118, .slice Ao124 t251.length co124] 29 (0, 0)) (by (with_reducible repeat (first | refine blk_drewN ?_ _ | refine blk_drew ?_ | refine blk_alloc ?_ _)); refine blk_put (cs := #[.slice Ao118 t248.length co118, .slice none 0 0]) ?_ 1 _ rfl; (with_reducible repeat (first | refine blk_drewN ?_ _ | refine blk_drew ?_ | refine blk_alloc ?_ _)); refine blk_put (cs := #[.slice none 0 0, .slice none 0 0]) ?_ 0 _ rfl; (with_reducible repeat (first | refine blk_drewN ?_ _ | refine blk_drew ?_ | refine blk_alloc ?_ _)); exact BK255.out) hb); replace HB := xp HB hb; (try clear hb); (try clear hb2); (try clear hk); (try clear hi)))
             go_meet
             case rel => exact ⟨_, (true), (by first | rfl | (simp; done) | (simp [*]; done)), H', ⟨by have := HJ11.out; have := HJ64.out; first | omega | exact Nat.le_refl _⟩, ⟨by (try simp only [hl218000_64]); (try simp only [hl218001_64]); (with_reducible repeat (first | apply Kd.R_alloc | apply Kd.R_drewN | apply Kd.R_drew)); exact Kd.R_mono HO_211000.out (fun _ hk => ⟨hk.1.1.1, ⟨hk.1.1.2, hk.2⟩⟩)⟩, ⟨by (try simp only [hl218000_64]); (try simp only [hl218001_64]); (with_reducible repeat (first | apply Kd.R_alloc | apply Kd.R_drewN | apply Kd.R_drew)); exact Kd.R_mono HO_211001.out (fun _ hk => ⟨hk.1.1.1, ⟨hk.1.1.2, hk.2⟩⟩)⟩, ⟨by (try simp only [hl218000_64]); (try simp only [hl218001_64]); (with_reducible repeat (first | apply Kd.R_alloc | apply Kd.R_drewN | apply Kd.R_drew)); exact Kd.R_mono HO_218000.out (fun _ hk => ⟨hk.1.1.1, ⟨hk.1.1.2, hk.2⟩⟩)⟩, ⟨by (try simp only [hl218000_64]); (try simp only [hl218001_64]); (with_reducible repeat (first | apply Kd.R_alloc | apply Kd.R_drewN | apply Kd.R_drew)); exact Kd.R_mono HO_218001.out (fun _ hk => ⟨hk.1.1.1, ⟨hk.1.1.2, hk.2⟩⟩)⟩, ⟨by (try simp only [hl218000_64]); (try simp only [hl218001_64]); (with_reducible repeat (first | apply Kd.R_alloc | apply Kd.R_drewN | apply Kd.R_drew)); exact Kd.R_mono HO_226000.out (fun _ hk => ⟨hk.1.1.1, ⟨hk.1.1.2, hk.2⟩⟩)⟩, ⟨by (try simp only [hl218000_64]); (try simp only [hl218001_64]); (with_reducible repeat (first | apply Kd.R_alloc | apply Kd.R_drewN | apply Kd.R_drew)); exact Kd.R_mono HO_226001.out (fun _ hk => ⟨hk.1.1.1, ⟨hk.1.1.2, hk.2⟩⟩)⟩, ⟨by (try simp only [hl218000_64]); (try simp only [hl218001_64]); (with_reducible repeat (first | apply Kd.R_alloc | apply Kd.R_drewN | apply Kd.R_drew)); exact Kd.R_mono HO250.out (fun _ hk => ⟨hk.1.1.1.2, ⟨hk.1.1.2, hk.1.2⟩⟩)⟩, ⟨by (try simp only [hl218000_64]); (try simp only [hl218001_64]); (with_reducible repeat (first | apply Kd.R_alloc | apply Kd.R_drewN | apply Kd.R_drew)); exact Kd.R_mono HO253.out (fun _ hk => ⟨hk.1.1.1.2, ⟨hk.1.1.2, hk.1.2⟩⟩)⟩, ⟨by (try simp only [hl218000_64]); (try simp only [hl218001_64]); (with_reducible repeat (first | refine blk_drewN ?_ _ | refine blk_drew ?_ | refine blk_alloc ?_ _)); exact BK195.out⟩, ⟨by (try simp only [hl218000_64]); (try simp only [hl218001_64]); (with_reducible repeat (first | refine blk_drewN ?_ _ | refine blk_drew ?_ | refine blk_alloc ?_ _)); exact BK210.out⟩, ⟨by (try simp only [hl218000_64]); (try simp only [hl218001_64]); (with_reducible repeat (first | refine blk_drewN ?_ _ | refine blk_drew ?_ | refine blk_alloc ?_ _)); exact BK217.out⟩, ⟨by (try simp only [hl218000_64]); (try simp only [hl218001_64]); (with_reducible repeat (first | refine blk_drewN ?_ _ | refine blk_drew ?_ | refine blk_alloc ?_ _)); exact BK225.out⟩, ⟨by (try simp only [hl218000_64]); (try simp only [hl218001_64]); (with_reducible repeat (first | refine blk_drewN ?_ _ | refine blk_drew ?_ | refine blk_alloc ?_ _)); exact BK255.out⟩, ⟨xs HB.out⟩⟩
           case rest =>
            clear HC102
            try clear c1
            try clear c2
            try clear p2
            try clear c3
            try clear c4
            try clear c4b0
            try clear c5
            try clear c6
            try clear c7
            try clear c8
            try clear c9
            try clear c10
            try clear c11
            try clear c12
            try clear c13
            try clear c14
            try clear c19
            try clear c20
            try clear c23
            try clear c27
            try clear c28
            try clear c30
            try clear c31
            try clear c37
            try clear c38
            try clear c39
            try clear c43
            try clear c44
            try clear c45
            try clear c46
            try clear c48
            try clear c49
            try clear c52
            try clear c53
            try clear c54
            try clear c56
            try clear c57
            try clear c60
            try clear c63
            try clear c71
            try clear c72
            try clear c73
            try clear c76
            try clear c76b0
            try clear c78
            try clear c79
            try clear c80
            try clear c81
            try clear c83
            try clear c84
            try clear c87
            try clear c88
            try clear c89
            try clear c91
            try clear c92
            try clear c95
            try clear c98
            try clear c98b0
            try clear c99
            try clear c99b0
            try clear c99b1
            try clear c103
            try clear c104
            try clear c105
            try clear c110
            try clear c111
            try clear c119
            try clear c120
            try clear c121
            try clear c122
            try clear c126
            try clear c127
            try clear c128
            try clear c129
            try clear c130
            try clear c132
            try clear c133
            try clear c134
            try clear c137
            try clear c138
            try clear c139
            try clear c140
            try clear c142
            try clear c143
            try clear c144
            try clear hcz106_0
            try clear hcz106_1
            try clear hcz108_0
            try clear hcz108_1
            try clear hcz112_0
            try clear hcz112_1
            try clear hcz123_0
            try clear hcz123_1
            try clear hcz131_0
            try clear hcz131_1
            try clear hcz135_0
            try clear hcz135_1
            try clear hcz141_0
            try clear hcz141_1
            try clear hcz145_0
            try clear hcz145_1
            try clear hcz14_0
            try clear hcz14_1
            try clear hcz16_0
            try clear hcz16_1
            try clear hcz24_0
            try clear hcz24_1
            try clear hcz26_0
            try clear hcz26_1
            try clear hcz32_0
            try clear hcz32_1
            try clear hcz40_0
            try clear hcz40_1
            try clear hcz47_0
            try clear hcz47_1
            try clear hcz50_0
            try clear hcz50_1
            try clear hcz55_0
            try clear hcz55_1
            try clear hcz58_0
            try clear hcz58_1
            try clear hcz6_0
            try clear hcz6_1
            try clear hcz74_0
            try clear hcz74_1
            try clear hcz82_0
            try clear hcz82_1
            try clear hcz85_0
            try clear hcz85_1
            try clear hcz90_0
            try clear hcz90_1
            try clear hcz93_0
            try clear hcz93_1
            try clear hfz106_0
            try clear hfz106_1
            try clear hfz108_0
            try clear hfz108_1
            try clear hfz112_0
            try clear hfz112_1
            try clear hfz123_0
            try clear hfz123_1
            try clear hfz131_0
            try clear hfz131_1
            try clear hfz135_0
            try clear hfz135_1
            try clear hfz141_0
            try clear hfz141_1
            try clear hfz145_0
            try clear hfz145_1
            try clear hfz14_0
            try clear hfz14_1
            try clear hfz16_0
            try clear hfz16_1
            try clear hfz24_0
            try clear hfz24_1
            try clear hfz26_0
            try clear hfz26_1
            try clear hfz32_0
            try clear hfz32_1
            try clear hfz40_0
            try clear hfz40_1
            try clear hfz47_0
            try clear hfz47_1
            try clear hfz50_0
            try clear hfz50_1
            try clear hfz55_0
            try clear hfz55_1
            try clear hfz58_0
            try clear hfz58_1
            try clear hfz6_0
            try clear hfz6_1
            try clear hfz74_0
            try clear hfz74_1
            try clear hfz82_0
            try clear hfz82_1
            try clear hfz85_0
            try clear hfz85_1
            try clear hfz90_0
            try clear hfz90_1
            try clear hfz93_0
            try clear hfz93_1
            try clear p2
            obtain ⟨kq, x92_101, rfl, HA, HJ101, HO_211000, HO_211001, HO_218000, HO_218001, HO_226000, HO_226001, HO_256000, HO_256001, BK195, BK210, BK217, BK225, BK255, HB⟩ := hcut
            have hl226000_101 := (Kd.R_reads' HO_226000.out).1
            rw [hl226000_101] at HO_226000
            (try simp only [hl226000_101])
            (try simp only [hl226000_101] at BK195)
            (try simp only [hl226000_101] at BK210)
            (try simp only [hl226000_101] at BK217)
            (try simp only [hl226000_101] at BK225)
            (try simp only [hl226000_101] at BK255)
            (try simp only [hl226000_101] at HO_211000)
            (try simp only [hl226000_101] at HO_211001)
            (try simp only [hl226000_101] at HO_218000)
            (try simp only [hl226000_101] at HO_218001)
            (try simp only [hl226000_101] at HO_226001)
            (try simp only [hl226000_101] at HO_256000)
            (try simp only [hl226000_101] at HO_256001)
            have hl226001_101 := (Kd.R_reads' HO_226001.out).1
            rw [hl226001_101] at HO_226001
            (try simp only [hl226001_101])
            (try simp only [hl226001_101] at BK195)
            (try simp only [hl226001_101] at BK210)
            (try simp only [hl226001_101] at BK217)
            (try simp only [hl226001_101] at BK225)
            (try simp only [hl226001_101] at BK255)
            (try simp only [hl226001_101] at HO_211000)
            (try simp only [hl226001_101] at HO_211001)
            (try simp only [hl226001_101] at HO_218000)
            (try simp only [hl226001_101] at HO_218001)
            (try simp only [hl226001_101] at HO_226000)
            (try simp only [hl226001_101] at HO_256000)
            (try simp only [hl226001_101] at HO_256001)
            cases kq with
            | zero => exact absurd HA.out (by simp [laws_FnExactRunShip.j2])
            | succ kj101 =>
             have H := HA.out
             clear HA
             simp only [laws_FnExactRunShip.j2] at H
             by_cases c147 : x92_101 = true
             ·subst c147
              have H1 : (some false) = some true := by first | (rw [if_pos rfl] at H; exact H) | rfl
              clear H
              have H := H1
              clear H1
              exact absurd H (by simp)
             ·replace c147 := Bool.eq_false_iff.mpr c147
              subst c147
              have H1 : ((laws_heldFlight.f kj101 t239 t240 1).bind fun t257 => (if t257 < 0 then (some false) else (if t257 = t238 then (some true) else (some false)))) = some true := by first | (rw [if_neg (show ¬ (false = true) by decide)] at H; exact H) | rfl
              clear H
              have H := H1
              clear H1
              replace H := Option.bind_eq_some_iff.mp H
              obtain ⟨t257, A1480, H⟩ := H
              replace H : (if t257 < 0 then (some false) else (if t257 = t238 then (some true) else (some false))) = some true := H
              have A148 := Aside0.mk A1480
              clear A1480
              by_cases c149 : t257 < 0
              ·rw [if_pos c149] at H
               have c149b0 : decide (t257 < 0) = true := decide_eq_true c149
               clear c149
               exact absurd H (by simp)
              ·rw [if_neg c149] at H
               have c149b0 : decide (t257 < 0) = false := decide_eq_false c149
               clear c149
               by_cases c150 : t257 = t238
               ·rw [if_pos c150] at H
                have c150b0 : (t257 == t238) = true := beq_iff_eq.mpr c150
                have c150b1 : (t257 != t238) = false := bne_eq_false_iff_eq.mpr c150
                clear c150
                clear H
                have hnb151 := NB225_195.out
                have hnc151 := NB195_225.out
                have hnb152 := NB225_210.out
                have hnc152 := NB210_225.out
                have hnb153 := NB225_217.out
                have hnc153 := NB217_225.out
                have hnb154 := NB225_255.out
                have hnc154 := NB255_225.out
                have hcz155_0 : wc.cell? ⟨gb225, 0, none⟩ = some (.slice Ao36 t239.length co36) := (blk_cell BK225.out 0).trans rfl
                have hcz155_1 : wc.cell? ⟨gb225, 1, none⟩ = some (.slice Ao41 t240.length co41) := (blk_cell BK225.out 1).trans rfl
                have hfz155_0 := blk_frozen BK225.out 0
                have hfz155_1 := blk_frozen BK225.out 1
                go_wp2_with (first | ((with_reducible refine gate_callee (f := 20) rfl ?_); refine goesL_ (some 95) rfl rfl Try.func20 (by kernel_rfl) rfl #[.agg #[.slice Ao36 t239.length co36, .slice Ao41 t240.length co41], .int .i64 1] rfl (by (try simp only [List.map_toArray, List.map_cons, List.map_nil]); first | done | rfl | (simp only [List.length_drop, List.length_take]; rfl)) ?_; (with_reducible refine (laws_heldFlight.calls kj101 _ _ t239 _ _ t240 1 t257 _ ?side1 ?side2 ?side3 ?side4 A148.out).mono ?_); (case side1 => exact xd ((Kd.R_reads' HO_226000.out).2.2)); (case side2 => exact (Kd.R_reads' HO_226000.out).2.1); (case side3 => exact xd ((Kd.R_reads' HO_226001.out).2.2)); (case side4 => exact (Kd.R_reads' HO_226001.out).2.1); rintro e w156 ⟨rfl, hb⟩; refine ⟨_, rfl, ?_⟩; replace HO_211000 := xq HO_211000 hb; replace HO_211001 := xq HO_211001 hb; replace HO_218000 := xq HO_218000 hb; replace HO_218001 := xq HO_218001 hb; replace HO_226000 := xq HO_226000 hb; replace HO_226001 := xq HO_226001 hb; replace HO_256000 := xq HO_256000 hb; replace HO_256001 := xq HO_256001 hb; replace BK195 := xk BK195 hb; replace BK210 := xk BK210 hb; replace BK217 := xk BK217 hb; replace BK225 := xk BK225 hb; replace BK255 := xk BK255 hb; replace HB := xp HB hb; (try clear hb); (try clear hb2); (try clear hk); (try clear hi)))
                go_ret
                exact ⟨by first | rfl | (simp [errW_none, errW_some] <;> rfl) | (simp [*, errW_none, errW_some] <;> rfl), by repeat (first | (with_reducible first | exact HB.out | apply below_alloc | apply pw_below_drewN | apply below_drew1 | refine below_set ?_ GE195.out | refine below_set ?_ GE210.out | refine below_set ?_ GE217.out | refine below_set ?_ GE225.out | refine below_set ?_ GE255.out) | exact HB.out)⟩
               ·rw [if_neg c150] at H
                have c150b0 : (t257 == t238) = false := beq_eq_false_iff_ne.mpr c150
                have c150b1 : (t257 != t238) = true := bne_iff_ne.mpr c150
                exact absurd H (by simp)
          ·rw [if_neg c99] at H
           have c99b0 : (t241 == t238) = false := beq_eq_false_iff_ne.mpr c99
           have c99b1 : (t241 != t238) = true := bne_iff_ne.mpr c99
           exact absurd H (by simp)
     ·replace c63 := Bool.eq_false_iff.mpr c63
      subst c63
      have H1 : (some false) = some true := by first | (rw [if_neg (show ¬ (false = true) by decide)] at H; exact H) | rfl
      clear H
      have H := H1
      clear H1
      exact absurd H (by simp)

end Go.Proofs.Ytmedapafllmhjaa.PFnExactRunShip

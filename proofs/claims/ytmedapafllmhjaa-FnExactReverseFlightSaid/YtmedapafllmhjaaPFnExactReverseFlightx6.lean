/- Lean functions of the Go functions that the law FnExactReverseFlight reaches, and the proofs that the calls come to what they say (made by program). -/
import Derived.Test.YtmedapafllmhjaaAb
import Derived.Test.YtmedapafllmhjaaPFnExactReverseFlightx0
import Derived.Test.YtmedapafllmhjaaPFnExactReverseFlightx1
import Derived.Test.YtmedapafllmhjaaPFnExactReverseFlightx2
import Derived.Test.YtmedapafllmhjaaPFnExactReverseFlightx4
import Derived.Test.YtmedapafllmhjaaPFnExactReverseFlightx5
namespace Go.Proofs.Ytmedapafllmhjaa.PFnExactReverseFlight
open Go.RowKit Go.Proofs.YtmedapafllmhjaaW.PrintWords Go.Proofs.YtmedapafllmhjaaW.PrintLast Go.Proofs.YtmedapafllmhjaaW.PrintMore Go.Proofs.Ytmedapafllmhjaa.Ab
attribute [local go_sem] max2_int min2_int max_two min_two max_three min_three max_four min_four   -- for this text's walks alone
set_option linter.unusedVariables false
set_option linter.unusedSimpArgs false

/-! ### laws_FnExactReverseFlight: function 5 -/
mutual
def laws_FnExactReverseFlight.j0 : Nat → Bool → Bool → Bool → List Int → List Bool → List Int → List Bool → List Int → List Bool → List Int → List Bool → Option (Bool)
  | 0, _, _, _, _, _, _, _, _, _, _, _ => none
  | k + 1, x5, x8, x40, x186000, x186001, x201000, x201001, x208000, x208001, x216000, x216001 => if x40 = true then (some false) else ((laws_toFlight.f k x186000 x186001).bind fun bt217 => ((laws_eqFlight.f k x208000 x208001 bt217.1 bt217.2).bind fun t223 => (if t223 = true then ((laws_markFlight.f k x208000 x208001 1).bind fun bt224 => (if bt224.1 < 0 then (laws_FnExactReverseFlight.j1 k x5 true x186000 x186001 x201000 x201001 x216000 x216001) else ((laws_eqFlight.f k x216000 x216001 x201000 x201001).bind fun t227 => (if t227 = true then (laws_FnExactReverseFlight.j1 k x5 (x8 != x5) x186000 x186001 x201000 x201001 x216000 x216001) else (laws_FnExactReverseFlight.j1 k x5 true x186000 x186001 x201000 x201001 x216000 x216001))))) else (some false))))
def laws_FnExactReverseFlight.j1 : Nat → Bool → Bool → List Int → List Bool → List Int → List Bool → List Int → List Bool → Option (Bool)
  | 0, _, _, _, _, _, _, _, _ => none
  | k + 1, x5, x61, x186000, x186001, x201000, x201001, x216000, x216001 => if x61 = true then (some false) else ((laws_markFlight.f k x216000 x216001 1).bind fun bt228 => ((laws_heldFlight.f k bt228.2.1 bt228.2.2 1).bind fun t231 => (if t231 < 0 then (some false) else (if t231 = bt228.1 then ((laws_toFlight.f k x186000 x186001).bind fun bt232 => ((impl_ReverseFlight.f k bt232.1 bt232.2).bind fun bt238 => ((laws_eqFlight.f k bt238.1 bt238.2.1 x201000 x201001).bind fun t246 => (if t246 = true then (laws_FnExactReverseFlight.j2 k bt228.1 (bt238.2.2 != x5) bt228.2.1 bt228.2.2) else (laws_FnExactReverseFlight.j2 k bt228.1 true bt228.2.1 bt228.2.2))))) else (some false)))))
def laws_FnExactReverseFlight.j2 : Nat → Int → Bool → List Int → List Bool → Option (Bool)
  | 0, _, _, _, _ => none
  | k + 1, x10, x87, x216000, x216001 => if x87 = true then (some false) else ((laws_heldFlight.f k x216000 x216001 1).bind fun t247 => (if t247 < 0 then (some false) else (if t247 = x10 then (some true) else (some false))))
end
def laws_FnExactReverseFlight.f (k : Nat) (l0_0 : List Int) (l0_1 : List Bool) : Option (Bool) := (laws_szFlight.f l0_0 l0_1 1048576).bind fun t186 => (if t186 < 0 then (some true) else ((laws_toFlight.f k l0_0 l0_1).bind fun bt187 => ((spec_ReverseFlight.f k bt187.1 bt187.2).bind fun bt193 => ((laws_toFlight.f k l0_0 l0_1).bind fun bt201 => ((impl_ReverseFlight.f k bt201.1 bt201.2).bind fun bt208 => ((laws_eqFlight.f k bt208.1 bt208.2.1 bt193.1 bt193.2.1).bind fun t216 => (if t216 = true then (laws_FnExactReverseFlight.j0 k bt193.2.2 bt208.2.2 (bt208.2.2 != bt193.2.2) l0_0 l0_1 bt193.1 bt193.2.1 bt201.1 bt201.2 bt208.1 bt208.2.1) else (laws_FnExactReverseFlight.j0 k bt193.2.2 bt208.2.2 true l0_0 l0_1 bt193.1 bt193.2.1 bt201.1 bt201.2 bt208.1 bt208.2.1))))))))
theorem laws_FnExactReverseFlight.mono_l : ∀ k, (∀ y0 y1 y2 y3 y4 y5 y6 y7 y8 y9 y10, LeO (laws_FnExactReverseFlight.j0 k y0 y1 y2 y3 y4 y5 y6 y7 y8 y9 y10) (laws_FnExactReverseFlight.j0 (k + 1) y0 y1 y2 y3 y4 y5 y6 y7 y8 y9 y10)) ∧ (∀ y0 y1 y2 y3 y4 y5 y6 y7, LeO (laws_FnExactReverseFlight.j1 k y0 y1 y2 y3 y4 y5 y6 y7) (laws_FnExactReverseFlight.j1 (k + 1) y0 y1 y2 y3 y4 y5 y6 y7)) ∧ (∀ y0 y1 y2 y3, LeO (laws_FnExactReverseFlight.j2 k y0 y1 y2 y3) (laws_FnExactReverseFlight.j2 (k + 1) y0 y1 y2 y3))
 | 0 => ⟨fun _ _ _ _ _ _ _ _ _ _ _ r h => by simp [laws_FnExactReverseFlight.j0] at h, fun _ _ _ _ _ _ _ _ r h => by simp [laws_FnExactReverseFlight.j1] at h, fun _ _ _ _ r h => by simp [laws_FnExactReverseFlight.j2] at h⟩
 | k + 1 => by
  obtain ⟨ih0, ih1, ih2⟩ := laws_FnExactReverseFlight.mono_l k
  refine ⟨?_, ?_, ?_⟩
  ·intro y0 y1 y2 y3 y4 y5 y6 y7 y8 y9 y10
   unfold laws_FnExactReverseFlight.j0
   repeat' first
   | (with_reducible exact ih0 _ _ _ _ _ _ _ _ _ _ _)
   | (with_reducible exact ih1 _ _ _ _ _ _ _ _)
   | (with_reducible exact ih2 _ _ _ _)
   | (with_reducible exact impl_ReverseFlight.mono _ _ _)
   | (with_reducible exact laws_eqFlight.mono _ _ _ _ _)
   | (with_reducible exact laws_heldFlight.mono _ _ _ _)
   | (with_reducible exact laws_markFlight.mono _ _ _ _)
   | (with_reducible exact laws_toFlight.mono _ _ _)
   | (with_reducible exact spec_ReverseFlight.mono _ _ _)
   | (with_reducible exact LeO.refl _)
   | (with_reducible exact LeO.none _)
   | (with_reducible refine LeO.ite ?_ ?_)
   | (with_reducible refine LeO.bind ?_ (fun _ => ?_))
   | exact ih0 _ _ _ _ _ _ _ _ _ _ _
   | exact ih1 _ _ _ _ _ _ _ _
   | exact ih2 _ _ _ _
   | exact impl_ReverseFlight.mono _ _ _
   | exact laws_eqFlight.mono _ _ _ _ _
   | exact laws_heldFlight.mono _ _ _ _
   | exact laws_markFlight.mono _ _ _ _
   | exact laws_toFlight.mono _ _ _
   | exact spec_ReverseFlight.mono _ _ _
   | exact LeO.none _
   | refine LeO.ite ?_ ?_
   | refine LeO.bind ?_ (fun _ => ?_)
  ·intro y0 y1 y2 y3 y4 y5 y6 y7
   unfold laws_FnExactReverseFlight.j1
   repeat' first
   | (with_reducible exact ih0 _ _ _ _ _ _ _ _ _ _ _)
   | (with_reducible exact ih1 _ _ _ _ _ _ _ _)
   | (with_reducible exact ih2 _ _ _ _)
   | (with_reducible exact impl_ReverseFlight.mono _ _ _)
   | (with_reducible exact laws_eqFlight.mono _ _ _ _ _)
   | (with_reducible exact laws_heldFlight.mono _ _ _ _)
   | (with_reducible exact laws_markFlight.mono _ _ _ _)
   | (with_reducible exact laws_toFlight.mono _ _ _)
   | (with_reducible exact spec_ReverseFlight.mono _ _ _)
   | (with_reducible exact LeO.refl _)
   | (with_reducible exact LeO.none _)
   | (with_reducible refine LeO.ite ?_ ?_)
   | (with_reducible refine LeO.bind ?_ (fun _ => ?_))
   | exact ih0 _ _ _ _ _ _ _ _ _ _ _
   | exact ih1 _ _ _ _ _ _ _ _
   | exact ih2 _ _ _ _
   | exact impl_ReverseFlight.mono _ _ _
   | exact laws_eqFlight.mono _ _ _ _ _
   | exact laws_heldFlight.mono _ _ _ _
   | exact laws_markFlight.mono _ _ _ _
   | exact laws_toFlight.mono _ _ _
   | exact spec_ReverseFlight.mono _ _ _
   | exact LeO.none _
   | refine LeO.ite ?_ ?_
   | refine LeO.bind ?_ (fun _ => ?_)
  ·intro y0 y1 y2 y3
   unfold laws_FnExactReverseFlight.j2
   repeat' first
   | (with_reducible exact ih0 _ _ _ _ _ _ _ _ _ _ _)
   | (with_reducible exact ih1 _ _ _ _ _ _ _ _)
   | (with_reducible exact ih2 _ _ _ _)
   | (with_reducible exact impl_ReverseFlight.mono _ _ _)
   | (with_reducible exact laws_eqFlight.mono _ _ _ _ _)
   | (with_reducible exact laws_heldFlight.mono _ _ _ _)
   | (with_reducible exact laws_markFlight.mono _ _ _ _)
   | (with_reducible exact laws_toFlight.mono _ _ _)
   | (with_reducible exact spec_ReverseFlight.mono _ _ _)
   | (with_reducible exact LeO.refl _)
   | (with_reducible exact LeO.none _)
   | (with_reducible refine LeO.ite ?_ ?_)
   | (with_reducible refine LeO.bind ?_ (fun _ => ?_))
   | exact ih0 _ _ _ _ _ _ _ _ _ _ _
   | exact ih1 _ _ _ _ _ _ _ _
   | exact ih2 _ _ _ _
   | exact impl_ReverseFlight.mono _ _ _
   | exact laws_eqFlight.mono _ _ _ _ _
   | exact laws_heldFlight.mono _ _ _ _
   | exact laws_markFlight.mono _ _ _ _
   | exact laws_toFlight.mono _ _ _
   | exact spec_ReverseFlight.mono _ _ _
   | exact LeO.none _
   | refine LeO.ite ?_ ?_
   | refine LeO.bind ?_ (fun _ => ?_)
theorem laws_FnExactReverseFlight.mono : ∀ a0 a1 k, LeO (laws_FnExactReverseFlight.f k a0 a1) (laws_FnExactReverseFlight.f (k + 1) a0 a1) := by
 intro a0 a1 k
 obtain ⟨ih0, ih1, ih2⟩ := laws_FnExactReverseFlight.mono_l k
 unfold laws_FnExactReverseFlight.f
 repeat' first
   | (with_reducible exact ih0 _ _ _ _ _ _ _ _ _ _ _)
   | (with_reducible exact ih1 _ _ _ _ _ _ _ _)
   | (with_reducible exact ih2 _ _ _ _)
   | (with_reducible exact impl_ReverseFlight.mono _ _ _)
   | (with_reducible exact laws_eqFlight.mono _ _ _ _ _)
   | (with_reducible exact laws_heldFlight.mono _ _ _ _)
   | (with_reducible exact laws_markFlight.mono _ _ _ _)
   | (with_reducible exact laws_toFlight.mono _ _ _)
   | (with_reducible exact spec_ReverseFlight.mono _ _ _)
   | (with_reducible exact LeO.refl _)
   | (with_reducible exact LeO.none _)
   | (with_reducible refine LeO.ite ?_ ?_)
   | (with_reducible refine LeO.bind ?_ (fun _ => ?_))
   | exact ih0 _ _ _ _ _ _ _ _ _ _ _
   | exact ih1 _ _ _ _ _ _ _ _
   | exact ih2 _ _ _ _
   | exact impl_ReverseFlight.mono _ _ _
   | exact laws_eqFlight.mono _ _ _ _ _
   | exact laws_heldFlight.mono _ _ _ _
   | exact laws_markFlight.mono _ _ _ _
   | exact laws_toFlight.mono _ _ _
   | exact spec_ReverseFlight.mono _ _ _
   | exact LeO.none _
   | refine LeO.ite ?_ ?_
   | refine LeO.bind ?_ (fun _ => ?_)
set_option maxHeartbeats 8000000 in
set_option maxRecDepth 100000 in
theorem laws_FnExactReverseFlight.calls (k : Nat) (A0_0 : Option Addr) (c0_0 : Nat) (l0_0 : List Int) (A0_1 : Option Addr) (c0_1 : Nat) (l0_1 : List Bool) (w : World) (hr0_0 : Kd.C (Kd.int .i64) w A0_0 l0_0.length l0_0) (hc0_0 : l0_0.length ≤ c0_0) (hr0_1 : Kd.C Kd.bool w A0_1 l0_1.length l0_1) (hc0_1 : l0_1.length ≤ c0_1) (h : laws_FnExactReverseFlight.f k l0_0 l0_1 = some true) :
  Calls Try.prog 5 #[.agg #[.slice A0_0 l0_0.length c0_0, .slice A0_1 l0_1.length c0_1]] w fun e w' => e = .returned (.bool true) ∧ Below w.heap.size w w' := by
 have hu25 := Try.underlying25
 have hu29 := Try.underlying29
 have HR0_0 := Aside0.mk hr0_0
 have HC0_0 := Aside0.mk hc0_0
 clear hr0_0 hc0_0
 have HR0_1 := Aside0.mk hr0_1
 have HC0_1 := Aside0.mk hc0_1
 clear hr0_1 hc0_1
 have HB := Aside0.mk (Below.refl w.heap.size w)
 have H : ((laws_szFlight.f l0_0 l0_1 1048576).bind fun t186 => (if t186 < 0 then (some true) else ((laws_toFlight.f k l0_0 l0_1).bind fun bt187 => ((spec_ReverseFlight.f k bt187.1 bt187.2).bind fun bt193 => ((laws_toFlight.f k l0_0 l0_1).bind fun bt201 => ((impl_ReverseFlight.f k bt201.1 bt201.2).bind fun bt208 => ((laws_eqFlight.f k bt208.1 bt208.2.1 bt193.1 bt193.2.1).bind fun t216 => (if t216 = true then (laws_FnExactReverseFlight.j0 k bt193.2.2 bt208.2.2 (bt208.2.2 != bt193.2.2) l0_0 l0_1 bt193.1 bt193.2.1 bt201.1 bt201.2 bt208.1 bt208.2.1) else (laws_FnExactReverseFlight.j0 k bt193.2.2 bt208.2.2 true l0_0 l0_1 bt193.1 bt193.2.1 bt201.1 bt201.2 bt208.1 bt208.2.1))))))))) = some true := h
 clear h
 replace H := Option.bind_eq_some_iff.mp H
 obtain ⟨t186, A20, H⟩ := H
 replace H : (if t186 < 0 then (some true) else ((laws_toFlight.f k l0_0 l0_1).bind fun bt187 => ((spec_ReverseFlight.f k bt187.1 bt187.2).bind fun bt193 => ((laws_toFlight.f k l0_0 l0_1).bind fun bt201 => ((impl_ReverseFlight.f k bt201.1 bt201.2).bind fun bt208 => ((laws_eqFlight.f k bt208.1 bt208.2.1 bt193.1 bt193.2.1).bind fun t216 => (if t216 = true then (laws_FnExactReverseFlight.j0 k bt193.2.2 bt208.2.2 (bt208.2.2 != bt193.2.2) l0_0 l0_1 bt193.1 bt193.2.1 bt201.1 bt201.2 bt208.1 bt208.2.1) else (laws_FnExactReverseFlight.j0 k bt193.2.2 bt208.2.2 true l0_0 l0_1 bt193.1 bt193.2.1 bt201.1 bt201.2 bt208.1 bt208.2.1)))))))) = some true := H
 have A2 := Aside0.mk A20
 clear A20
 by_cases c3 : t186 < 0
 ·rw [if_pos c3] at H
  have c3b0 : decide (t186 < 0) = true := decide_eq_true c3
  clear c3
  clear H
  go_enter Try.func5, Try.ntmps5
  go_wp2_with (first | ((with_reducible refine gate_dst (N := 1) rfl ?_); refine box_event ?hg (N := 1) ?hd (cs := #[.slice A0_0 l0_0.length c0_0, .slice A0_1 l0_1.length c0_1]) (t := 25) ?hr ?_; (case hd => rfl); (case hg => rfl); (case hr => first | (go_simp; done) | (go_simp; rfl)); intro gb185 hg w4 hbox hb; have BK185 := Aside0.mk (hbox); have GW185 := xg HB hg; have GE185 := xg HB hg; replace HB := xp HB hb; clear hb hbox hg; have hcz5_0 : w4.cell? ⟨gb185, 0, none⟩ = some (.slice A0_0 l0_0.length c0_0) := (blk_cell BK185.out 0).trans rfl; have hcz5_1 : w4.cell? ⟨gb185, 1, none⟩ = some (.slice A0_1 l0_1.length c0_1) := (blk_cell BK185.out 1).trans rfl; have hfz5_0 := blk_frozen BK185.out 0; have hfz5_1 := blk_frozen BK185.out 1) | ((with_reducible refine gate_callee (f := 10) rfl ?_); refine goesL_ (some 16) rfl rfl Try.func10 (by kernel_rfl) rfl #[.agg #[.slice A0_0 l0_0.length c0_0, .slice A0_1 l0_1.length c0_1], .int .i64 1048576] rfl (by (try simp only [List.map_toArray, List.map_cons, List.map_nil]); first | done | rfl | (simp only [List.length_drop, List.length_take]; rfl)) ?_; (with_reducible refine (laws_szFlight.calls _ _ l0_0 _ _ l0_1 1048576 t186 _ ?side1 ?side2 ?side3 ?side4 A2.out).mono ?_); (case side1 => exact xd ((Kd.C_below HR0_0.out HB.out))); (case side2 => exact HC0_0.out); (case side3 => exact xd ((Kd.C_below HR0_1.out HB.out))); (case side4 => exact HC0_1.out); rintro e w6 ⟨rfl, hb⟩; refine ⟨_, rfl, ?_⟩; replace BK185 := xk BK185 hb; replace HB := xp HB hb; (try clear hb); (try clear hb2); (try clear hk); (try clear hi)))
  go_ret
  exact ⟨by first | rfl | (simp [errW_none, errW_some] <;> rfl) | (simp [*, errW_none, errW_some] <;> rfl), by repeat (first | (with_reducible first | exact HB.out | apply below_alloc | apply pw_below_drewN | apply below_drew1 | refine below_set ?_ GE185.out) | exact HB.out)⟩
 ·rw [if_neg c3] at H
  have c3b0 : decide (t186 < 0) = false := decide_eq_false c3
  clear c3
  replace H := Option.bind_eq_some_iff.mp H
  obtain ⟨⟨t187, t190⟩, A70, H⟩ := H
  replace H : ((spec_ReverseFlight.f k t187 t190).bind fun bt193 => ((laws_toFlight.f k l0_0 l0_1).bind fun bt201 => ((impl_ReverseFlight.f k bt201.1 bt201.2).bind fun bt208 => ((laws_eqFlight.f k bt208.1 bt208.2.1 bt193.1 bt193.2.1).bind fun t216 => (if t216 = true then (laws_FnExactReverseFlight.j0 k bt193.2.2 bt208.2.2 (bt208.2.2 != bt193.2.2) l0_0 l0_1 bt193.1 bt193.2.1 bt201.1 bt201.2 bt208.1 bt208.2.1) else (laws_FnExactReverseFlight.j0 k bt193.2.2 bt208.2.2 true l0_0 l0_1 bt193.1 bt193.2.1 bt201.1 bt201.2 bt208.1 bt208.2.1)))))) = some true := H
  have A7 := Aside0.mk A70
  clear A70
  replace H := Option.bind_eq_some_iff.mp H
  obtain ⟨⟨t193, t196, t199⟩, A80, H⟩ := H
  replace H : ((laws_toFlight.f k l0_0 l0_1).bind fun bt201 => ((impl_ReverseFlight.f k bt201.1 bt201.2).bind fun bt208 => ((laws_eqFlight.f k bt208.1 bt208.2.1 t193 t196).bind fun t216 => (if t216 = true then (laws_FnExactReverseFlight.j0 k t199 bt208.2.2 (bt208.2.2 != t199) l0_0 l0_1 t193 t196 bt201.1 bt201.2 bt208.1 bt208.2.1) else (laws_FnExactReverseFlight.j0 k t199 bt208.2.2 true l0_0 l0_1 t193 t196 bt201.1 bt201.2 bt208.1 bt208.2.1))))) = some true := H
  have A8 := Aside0.mk A80
  clear A80
  replace H := Option.bind_eq_some_iff.mp H
  obtain ⟨⟨t201, t204⟩, A90, H⟩ := H
  replace H : ((impl_ReverseFlight.f k t201 t204).bind fun bt208 => ((laws_eqFlight.f k bt208.1 bt208.2.1 t193 t196).bind fun t216 => (if t216 = true then (laws_FnExactReverseFlight.j0 k t199 bt208.2.2 (bt208.2.2 != t199) l0_0 l0_1 t193 t196 t201 t204 bt208.1 bt208.2.1) else (laws_FnExactReverseFlight.j0 k t199 bt208.2.2 true l0_0 l0_1 t193 t196 t201 t204 bt208.1 bt208.2.1)))) = some true := H
  have A9 := Aside0.mk A90
  clear A90
  replace H := Option.bind_eq_some_iff.mp H
  obtain ⟨⟨t208, t211, t214⟩, A100, H⟩ := H
  replace H : ((laws_eqFlight.f k t208 t211 t193 t196).bind fun t216 => (if t216 = true then (laws_FnExactReverseFlight.j0 k t199 t214 (t214 != t199) l0_0 l0_1 t193 t196 t201 t204 t208 t211) else (laws_FnExactReverseFlight.j0 k t199 t214 true l0_0 l0_1 t193 t196 t201 t204 t208 t211))) = some true := H
  have A10 := Aside0.mk A100
  clear A100
  have HC11 := Aside0.mk H
  clear H
  go_enter Try.func5, Try.ntmps5
  go_upto_region 8 with (first | ((with_reducible refine gate_dst (N := 1) rfl ?_); refine box_event ?hg (N := 1) ?hd (cs := #[.slice A0_0 l0_0.length c0_0, .slice A0_1 l0_1.length c0_1]) (t := 25) ?hr ?_; (case hd => rfl); (case hg => rfl); (case hr => first | (go_simp; done) | (go_simp; rfl)); intro gb185 hg w12 hbox hb; have BK185 := Aside0.mk (hbox); have GW185 := xg HB hg; have GE185 := xg HB hg; replace HB := xp HB hb; clear hb hbox hg; have hcz13_0 : w12.cell? ⟨gb185, 0, none⟩ = some (.slice A0_0 l0_0.length c0_0) := (blk_cell BK185.out 0).trans rfl; have hcz13_1 : w12.cell? ⟨gb185, 1, none⟩ = some (.slice A0_1 l0_1.length c0_1) := (blk_cell BK185.out 1).trans rfl; have hfz13_0 := blk_frozen BK185.out 0; have hfz13_1 := blk_frozen BK185.out 1) | ((with_reducible refine gate_callee (f := 10) rfl ?_); refine goesL_ (some 16) rfl rfl Try.func10 (by kernel_rfl) rfl #[.agg #[.slice A0_0 l0_0.length c0_0, .slice A0_1 l0_1.length c0_1], .int .i64 1048576] rfl (by (try simp only [List.map_toArray, List.map_cons, List.map_nil]); first | done | rfl | (simp only [List.length_drop, List.length_take]; rfl)) ?_; (with_reducible refine (laws_szFlight.calls _ _ l0_0 _ _ l0_1 1048576 t186 _ ?side1 ?side2 ?side3 ?side4 A2.out).mono ?_); (case side1 => exact xd ((Kd.C_below HR0_0.out HB.out))); (case side2 => exact HC0_0.out); (case side3 => exact xd ((Kd.C_below HR0_1.out HB.out))); (case side4 => exact HC0_1.out); rintro e w14 ⟨rfl, hb⟩; refine ⟨_, rfl, ?_⟩; replace BK185 := xk BK185 hb; replace HB := xp HB hb; (try clear hb); (try clear hb2); (try clear hk); (try clear hi); have hcz15_0 : w14.cell? ⟨gb185, 0, none⟩ = some (.slice A0_0 l0_0.length c0_0) := (blk_cell BK185.out 0).trans rfl; have hcz15_1 : w14.cell? ⟨gb185, 1, none⟩ = some (.slice A0_1 l0_1.length c0_1) := (blk_cell BK185.out 1).trans rfl; have hfz15_0 := blk_frozen BK185.out 0; have hfz15_1 := blk_frozen BK185.out 1) | ((with_reducible refine gate_callee (f := 12) rfl ?_); refine goesL_ (some 21) rfl rfl Try.func12 (by kernel_rfl) rfl #[.agg #[.slice A0_0 l0_0.length c0_0, .slice A0_1 l0_1.length c0_1]] rfl (by (try simp only [List.map_toArray, List.map_cons, List.map_nil]); first | done | rfl | (simp only [List.length_drop, List.length_take]; rfl)) ?_; (with_reducible refine (laws_toFlight.calls k _ _ l0_0 _ _ l0_1 t187 t190 _ ?side1 ?side2 ?side3 ?side4 A7.out).mono ?_); (case side1 => exact xd ((Kd.C_below HR0_0.out HB.out))); (case side2 => exact HC0_0.out); (case side3 => exact xd ((Kd.C_below HR0_1.out HB.out))); (case side4 => exact HC0_1.out); rintro e w16 ⟨v188, v191, rfl, ho0, ho1, hb⟩; refine ⟨_, rfl, ?_⟩; have HO189 := Aside0.mk (Kd.R_lower ho0 (below_size (xs HB.out))); have HO192 := Aside0.mk (Kd.R_lower ho1 (below_size (xs HB.out))); replace BK185 := xk BK185 hb; replace HB := xp HB hb; (try clear hb); (try clear hb2); (try clear hk); (try clear hi); (try clear ho0); (try clear ho1); obtain ⟨Ao17, co17, eo17⟩ := Kd.R_slice HO189.out; subst eo17; obtain ⟨Ao18, co18, eo18⟩ := Kd.R_slice HO192.out; subst eo18) | ((with_reducible refine gate_callee (f := 17) rfl ?_); refine goesL_ (some 22) rfl rfl Try.func17 (by kernel_rfl) rfl #[.agg #[.slice Ao17 t187.length co17, .slice Ao18 t190.length co18]] rfl (by (try simp only [List.map_toArray, List.map_cons, List.map_nil]); first | done | rfl | (simp only [List.length_drop, List.length_take]; rfl)) ?_; (with_reducible refine (spec_ReverseFlight.calls k _ _ t187 _ _ t190 t193 t196 t199 _ ?side1 ?side2 ?side3 ?side4 A8.out).mono ?_); (case side1 => exact xd ((Kd.R_reads' HO189.out).2.2)); (case side2 => exact (Kd.R_reads' HO189.out).2.1); (case side3 => exact xd ((Kd.R_reads' HO192.out).2.2)); (case side4 => exact (Kd.R_reads' HO192.out).2.1); rintro e w19 ⟨v194, v197, rfl, ho0, ho1, hb⟩; refine ⟨_, rfl, ?_⟩; have HO195 := Aside0.mk (Kd.R_lower (Kd.R_new' ho0 (Kd.R_lt (xr HO189.out))) (below_size (xs HB.out))); replace HO189 := Aside0.mk (Kd.R_elder' (xr HO189.out) (Kd.R_base ho0) hb); have HO198 := Aside0.mk (Kd.R_lower (Kd.R_new' ho1 (Kd.R_lt (xr HO192.out))) (below_size (xs HB.out))); replace HO192 := Aside0.mk (Kd.R_elder' (xr HO192.out) (Kd.R_base ho1) hb); replace BK185 := xk BK185 hb; replace HB := xp HB hb; (try clear hb); (try clear hb2); (try clear hk); (try clear hi); (try clear ho0); (try clear ho1)) | ((with_reducible refine gate_dst (N := 4) rfl ?_); refine box_event ?hg (N := 4) ?hd (cs := #[.slice none 0 0, .slice none 0 0]) (t := 29) ?hr ?_; (case hd => rfl); (case hg => rfl); (case hr => first | (go_simp; done) | (go_simp; rfl)); intro gb200 hg w20 hbox hb; replace HO189 := xq HO189 hb; replace HO192 := xq HO192 hb; replace HO195 := xq HO195 hb; replace HO198 := xq HO198 hb; have BK200 := Aside0.mk (hbox); have GW200 := xg HB hg; have GE200 := xg HB hg; replace HB := xp HB hb; have NB185_200 := xl BK185 hg; have NB200_185 := xh BK185 hg; replace BK185 := xk BK185 hb; clear hb hbox hg; obtain ⟨Ao21, co21, eo21⟩ := Kd.R_slice HO195.out; subst eo21; have hnb22 := NB200_185.out; have hnc22 := NB185_200.out; have hcz23_0 : w20.cell? ⟨gb200, 0, none⟩ = some (.slice none 0 0) := (blk_cell BK200.out 0).trans rfl; have hcz23_1 : w20.cell? ⟨gb200, 1, none⟩ = some (.slice none 0 0) := (blk_cell BK200.out 1).trans rfl; have hfz23_0 := blk_frozen BK200.out 0; have hfz23_1 := blk_frozen BK200.out 1; obtain ⟨Ao24, co24, eo24⟩ := Kd.R_slice HO198.out; subst eo24; have hcz25_0 : w20.cell? ⟨gb185, 0, none⟩ = some (.slice A0_0 l0_0.length c0_0) := (blk_cell BK185.out 0).trans rfl; have hcz25_1 : w20.cell? ⟨gb185, 1, none⟩ = some (.slice A0_1 l0_1.length c0_1) := (blk_cell BK185.out 1).trans rfl; have hfz25_0 := blk_frozen BK185.out 0; have hfz25_1 := blk_frozen BK185.out 1) | ((with_reducible refine gate_callee (f := 12) rfl ?_); refine goesL_ (some 26) rfl rfl Try.func12 (by kernel_rfl) rfl #[.agg #[.slice A0_0 l0_0.length c0_0, .slice A0_1 l0_1.length c0_1]] rfl (by (try simp only [List.map_toArray, List.map_cons, List.map_nil]); first | done | rfl | (simp only [List.length_drop, List.length_take]; rfl)) ?_; (with_reducible refine (laws_toFlight.calls k _ _ l0_0 _ _ l0_1 t201 t204 _ ?side1 ?side2 ?side3 ?side4 A9.out).mono ?_); (case side1 => exact Kd.C_below HR0_0.out (xs HB.out)); (case side2 => exact HC0_0.out); (case side3 => exact Kd.C_below HR0_1.out (xs HB.out)); (case side4 => exact HC0_1.out); rintro e w26 ⟨v202, v205, rfl, ho0, ho1, hb⟩; refine ⟨_, rfl, ?_⟩; have HO203 := Aside0.mk (Kd.R_lower (Kd.R_new' (Kd.R_new' ho0 (Kd.R_lt (by (with_reducible repeat (first | apply Kd.R_alloc | apply Kd.R_drewN | apply Kd.R_drew)); exact (Kd.R_mono (Kd.R_far (p := ⟨gb200, 1, none⟩) (Kd.R_far (p := ⟨gb200, 0, none⟩) (Kd.R_types HO189.out BK200.out (by decide)) (fun _ hk => hk.2) (.slice Ao21 t193.length co21)) (fun _ hk => hk.2) (.slice Ao24 t196.length co24)) (fun _ h_ => h_.1))))) (Kd.R_lt (by (with_reducible repeat (first | apply Kd.R_alloc | apply Kd.R_drewN | apply Kd.R_drew)); exact (Kd.R_mono (Kd.R_far (p := ⟨gb200, 1, none⟩) (Kd.R_far (p := ⟨gb200, 0, none⟩) (Kd.R_types HO195.out BK200.out (by decide)) (fun _ hk => hk.2) (.slice Ao21 t193.length co21)) (fun _ hk => hk.2) (.slice Ao24 t196.length co24)) (fun _ h_ => h_.1))))) (below_size (xs HB.out))); replace HO189 := Aside0.mk (Kd.R_elder' (by (with_reducible repeat (first | apply Kd.R_alloc | apply Kd.R_drewN | apply Kd.R_drew)); exact (Kd.R_mono (Kd.R_far (p := ⟨gb200, 1, none⟩) (Kd.R_far (p := ⟨gb200, 0, none⟩) (Kd.R_types HO189.out BK200.out (by decide)) (fun _ hk => hk.2) (.slice Ao21 t193.length co21)) (fun _ hk => hk.2) (.slice Ao24 t196.length co24)) (fun _ h_ => h_.1))) (Kd.R_base ho0) hb); replace HO195 := Aside0.mk (Kd.R_elder' (by (with_reducible repeat (first | apply Kd.R_alloc | apply Kd.R_drewN | apply Kd.R_drew)); exact (Kd.R_mono (Kd.R_far (p := ⟨gb200, 1, none⟩) (Kd.R_far (p := ⟨gb200, 0, none⟩) (Kd.R_types HO195.out BK200.out (by decide)) (fun _ hk => hk.2) (.slice Ao21 t193.length co21)) (fun _ hk => hk.2) (.slice Ao24 t196.length co24)) (fun _ h_ => h_.1))) (Kd.R_base ho0) hb); have HO206 := Aside0.mk (Kd.R_lower (Kd.R_new' (Kd.R_new' ho1 (Kd.R_lt (by (with_reducible repeat (first | apply Kd.R_alloc | apply Kd.R_drewN | apply Kd.R_drew)); exact (Kd.R_mono (Kd.R_far (p := ⟨gb200, 1, none⟩) (Kd.R_far (p := ⟨gb200, 0, none⟩) (Kd.R_types HO192.out BK200.out (by decide)) (fun _ hk => hk.2) (.slice Ao21 t193.length co21)) (fun _ hk => hk.2) (.slice Ao24 t196.length co24)) (fun _ h_ => h_.1))))) (Kd.R_lt (by (with_reducible repeat (first | apply Kd.R_alloc | apply Kd.R_drewN | apply Kd.R_drew)); exact (Kd.R_mono (Kd.R_far (p := ⟨gb200, 1, none⟩) (Kd.R_far (p := ⟨gb200, 0, none⟩) (Kd.R_types HO198.out BK200.out (by decide)) (fun _ hk => hk.2) (.slice Ao21 t193.length co21)) (fun _ hk => hk.2) (.slice Ao24 t196.length co24)) (fun _ h_ => h_.1))))) (below_size (xs HB.out))); replace HO192 := Aside0.mk (Kd.R_elder' (by (with_reducible repeat (first | apply Kd.R_alloc | apply Kd.R_drewN | apply Kd.R_drew)); exact (Kd.R_mono (Kd.R_far (p := ⟨gb200, 1, none⟩) (Kd.R_far (p := ⟨gb200, 0, none⟩) (Kd.R_types HO192.out BK200.out (by decide)) (fun _ hk => hk.2) (.slice Ao21 t193.length co21)) (fun _ hk => hk.2) (.slice Ao24 t196.length co24)) (fun _ h_ => h_.1))) (Kd.R_base ho1) hb); replace HO198 := Aside0.mk (Kd.R_elder' (by (with_reducible repeat (first | apply Kd.R_alloc | apply Kd.R_drewN | apply Kd.R_drew)); exact (Kd.R_mono (Kd.R_far (p := ⟨gb200, 1, none⟩) (Kd.R_far (p := ⟨gb200, 0, none⟩) (Kd.R_types HO198.out BK200.out (by decide)) (fun _ hk => hk.2) (.slice Ao21 t193.length co21)) (fun _ hk => hk.2) (.slice Ao24 t196.length co24)) (fun _ h_ => h_.1))) (Kd.R_base ho1) hb); replace BK185 := Aside0.mk (blk_below (g := gb185) (o := .cells #[.slice A0_0 l0_0.length c0_0, .slice A0_1 l0_1.length c0_1] 25 (0, 0)) (xff NB185_200.out NB185_200.out BK185.out) hb); replace BK200 := Aside0.mk (blk_below (g := gb200) (o := .cells #[.slice Ao21 t193.length co21, .slice Ao24 t196.length co24] 29 (0, 0)) (by (with_reducible repeat (first | refine blk_drewN ?_ _ | refine blk_drew ?_ | refine blk_alloc ?_ _)); refine blk_put (cs := #[.slice Ao21 t193.length co21, .slice none 0 0]) ?_ 1 _ rfl; (with_reducible repeat (first | refine blk_drewN ?_ _ | refine blk_drew ?_ | refine blk_alloc ?_ _)); refine blk_put (cs := #[.slice none 0 0, .slice none 0 0]) ?_ 0 _ rfl; (with_reducible repeat (first | refine blk_drewN ?_ _ | refine blk_drew ?_ | refine blk_alloc ?_ _)); exact BK200.out) hb); replace HB := xp HB hb; (try clear hb); (try clear hb2); (try clear hk); (try clear hi); (try clear ho0); (try clear ho1)) | ((with_reducible refine gate_dst (N := 6) rfl ?_); refine box_event ?hg (N := 6) ?hd (cs := #[.slice none 0 0, .slice none 0 0]) (t := 29) ?hr ?_; (case hd => rfl); (case hg => rfl); (case hr => first | (go_simp; done) | (go_simp; rfl)); intro gb207 hg w27 hbox hb; replace HO189 := xq HO189 hb; replace HO192 := xq HO192 hb; replace HO195 := xq HO195 hb; replace HO198 := xq HO198 hb; replace HO203 := xq HO203 hb; replace HO206 := xq HO206 hb; have BK207 := Aside0.mk (hbox); have GW207 := xg HB hg; have GE207 := xg HB hg; replace HB := xp HB hb; have NB185_207 := xl BK185 hg; have NB207_185 := xh BK185 hg; replace BK185 := xk BK185 hb; have NB200_207 := xl BK200 hg; have NB207_200 := xh BK200 hg; replace BK200 := xk BK200 hb; clear hb hbox hg; obtain ⟨Ao28, co28, eo28⟩ := Kd.R_slice HO203.out; subst eo28; have hnb29 := NB207_185.out; have hnc29 := NB185_207.out; have hnb30 := NB207_200.out; have hnc30 := NB200_207.out; have hcz31_0 : w27.cell? ⟨gb207, 0, none⟩ = some (.slice none 0 0) := (blk_cell BK207.out 0).trans rfl; have hcz31_1 : w27.cell? ⟨gb207, 1, none⟩ = some (.slice none 0 0) := (blk_cell BK207.out 1).trans rfl; have hfz31_0 := blk_frozen BK207.out 0; have hfz31_1 := blk_frozen BK207.out 1; obtain ⟨Ao32, co32, eo32⟩ := Kd.R_slice HO206.out; subst eo32) | ((with_reducible refine gate_callee (f := 18) rfl ?_); refine goesL_ (some 29) rfl rfl Try.func18 (by kernel_rfl) rfl #[.agg #[.slice Ao28 t201.length co28, .slice Ao32 t204.length co32]] rfl (by (try simp only [List.map_toArray, List.map_cons, List.map_nil]); first | done | rfl | (simp only [List.length_drop, List.length_take]; rfl)) ?_; (with_reducible refine (impl_ReverseFlight.calls k _ _ t201 _ _ t204 t208 t211 t214 _ ?side1 ?side2 ?side3 ?side4 A10.out).mono ?_); (case side1 => refine (Kd.R_reads' (e := 3) (base := w.heap.size) (ok := fun k_ => ((True ∧ nS k_ Ao17 t187.length co17) ∧ nS k_ Ao21 t193.length co21)) (n := t201.length) (c := co28) ?_).2.2; exact (by (with_reducible repeat (first | apply Kd.R_alloc | apply Kd.R_drewN | apply Kd.R_drew)); exact (Kd.R_mono (Kd.R_far (p := ⟨gb207, 1, none⟩) (Kd.R_far (p := ⟨gb207, 0, none⟩) (Kd.R_types HO203.out BK207.out (by decide)) (fun _ hk => hk.2) (.slice Ao28 t201.length co28)) (fun _ hk => hk.2) (.slice Ao32 t204.length co32)) (fun _ h_ => h_.1)))); (case side2 => exact (Kd.R_reads' HO203.out).2.1); (case side3 => refine (Kd.R_reads' (e := 4) (base := w.heap.size) (ok := fun k_ => ((True ∧ nS k_ Ao18 t190.length co18) ∧ nS k_ Ao24 t196.length co24)) (n := t204.length) (c := co32) ?_).2.2; exact (by (with_reducible repeat (first | apply Kd.R_alloc | apply Kd.R_drewN | apply Kd.R_drew)); exact (Kd.R_mono (Kd.R_far (p := ⟨gb207, 1, none⟩) (Kd.R_far (p := ⟨gb207, 0, none⟩) (Kd.R_types HO206.out BK207.out (by decide)) (fun _ hk => hk.2) (.slice Ao28 t201.length co28)) (fun _ hk => hk.2) (.slice Ao32 t204.length co32)) (fun _ h_ => h_.1)))); (case side4 => exact (Kd.R_reads' HO206.out).2.1); rintro e w33 ⟨v209, v212, rfl, ho0, ho1, hb⟩; refine ⟨_, rfl, ?_⟩; have HO210 := Aside0.mk (Kd.R_lower (Kd.R_new' (Kd.R_new' (Kd.R_new' ho0 (Kd.R_lt (by (with_reducible repeat (first | apply Kd.R_alloc | apply Kd.R_drewN | apply Kd.R_drew)); exact (Kd.R_mono (Kd.R_far (p := ⟨gb207, 1, none⟩) (Kd.R_far (p := ⟨gb207, 0, none⟩) (Kd.R_types HO189.out BK207.out (by decide)) (fun _ hk => hk.2) (.slice Ao28 t201.length co28)) (fun _ hk => hk.2) (.slice Ao32 t204.length co32)) (fun _ h_ => h_.1))))) (Kd.R_lt (by (with_reducible repeat (first | apply Kd.R_alloc | apply Kd.R_drewN | apply Kd.R_drew)); exact (Kd.R_mono (Kd.R_far (p := ⟨gb207, 1, none⟩) (Kd.R_far (p := ⟨gb207, 0, none⟩) (Kd.R_types HO195.out BK207.out (by decide)) (fun _ hk => hk.2) (.slice Ao28 t201.length co28)) (fun _ hk => hk.2) (.slice Ao32 t204.length co32)) (fun _ h_ => h_.1))))) (Kd.R_lt (by (with_reducible repeat (first | apply Kd.R_alloc | apply Kd.R_drewN | apply Kd.R_drew)); exact (Kd.R_mono (Kd.R_far (p := ⟨gb207, 1, none⟩) (Kd.R_far (p := ⟨gb207, 0, none⟩) (Kd.R_types HO203.out BK207.out (by decide)) (fun _ hk => hk.2) (.slice Ao28 t201.length co28)) (fun _ hk => hk.2) (.slice Ao32 t204.length co32)) (fun _ h_ => h_.1))))) (below_size (xs HB.out))); replace HO189 := Aside0.mk (Kd.R_elder' (by (with_reducible repeat (first | apply Kd.R_alloc | apply Kd.R_drewN | apply Kd.R_drew)); exact (Kd.R_mono (Kd.R_far (p := ⟨gb207, 1, none⟩) (Kd.R_far (p := ⟨gb207, 0, none⟩) (Kd.R_types HO189.out BK207.out (by decide)) (fun _ hk => hk.2) (.slice Ao28 t201.length co28)) (fun _ hk => hk.2) (.slice Ao32 t204.length co32)) (fun _ h_ => h_.1))) (Kd.R_base ho0) hb); replace HO195 := Aside0.mk (Kd.R_elder' (by (with_reducible repeat (first | apply Kd.R_alloc | apply Kd.R_drewN | apply Kd.R_drew)); exact (Kd.R_mono (Kd.R_far (p := ⟨gb207, 1, none⟩) (Kd.R_far (p := ⟨gb207, 0, none⟩) (Kd.R_types HO195.out BK207.out (by decide)) (fun _ hk => hk.2) (.slice Ao28 t201.length co28)) (fun _ hk => hk.2) (.slice Ao32 t204.length co32)) (fun _ h_ => h_.1))) (Kd.R_base ho0) hb); replace HO203 := Aside0.mk (Kd.R_elder' (by (with_reducible repeat (first | apply Kd.R_alloc | apply Kd.R_drewN | apply Kd.R_drew)); exact (Kd.R_mono (Kd.R_far (p := ⟨gb207, 1, none⟩) (Kd.R_far (p := ⟨gb207, 0, none⟩) (Kd.R_types HO203.out BK207.out (by decide)) (fun _ hk => hk.2) (.slice Ao28 t201.length co28)) (fun _ hk => hk.2) (.slice Ao32 t204.length co32)) (fun _ h_ => h_.1))) (Kd.R_base ho0) hb); have HO213 := Aside0.mk (Kd.R_lower (Kd.R_new' (Kd.R_new' (Kd.R_new' ho1 (Kd.R_lt (by (with_reducible repeat (first | apply Kd.R_alloc | apply Kd.R_drewN | apply Kd.R_drew)); exact (Kd.R_mono (Kd.R_far (p := ⟨gb207, 1, none⟩) (Kd.R_far (p := ⟨gb207, 0, none⟩) (Kd.R_types HO192.out BK207.out (by decide)) (fun _ hk => hk.2) (.slice Ao28 t201.length co28)) (fun _ hk => hk.2) (.slice Ao32 t204.length co32)) (fun _ h_ => h_.1))))) (Kd.R_lt (by (with_reducible repeat (first | apply Kd.R_alloc | apply Kd.R_drewN | apply Kd.R_drew)); exact (Kd.R_mono (Kd.R_far (p := ⟨gb207, 1, none⟩) (Kd.R_far (p := ⟨gb207, 0, none⟩) (Kd.R_types HO198.out BK207.out (by decide)) (fun _ hk => hk.2) (.slice Ao28 t201.length co28)) (fun _ hk => hk.2) (.slice Ao32 t204.length co32)) (fun _ h_ => h_.1))))) (Kd.R_lt (by (with_reducible repeat (first | apply Kd.R_alloc | apply Kd.R_drewN | apply Kd.R_drew)); exact (Kd.R_mono (Kd.R_far (p := ⟨gb207, 1, none⟩) (Kd.R_far (p := ⟨gb207, 0, none⟩) (Kd.R_types HO206.out BK207.out (by decide)) (fun _ hk => hk.2) (.slice Ao28 t201.length co28)) (fun _ hk => hk.2) (.slice Ao32 t204.length co32)) (fun _ h_ => h_.1))))) (below_size (xs HB.out))); replace HO192 := Aside0.mk (Kd.R_elder' (by (with_reducible repeat (first | apply Kd.R_alloc | apply Kd.R_drewN | apply Kd.R_drew)); exact (Kd.R_mono (Kd.R_far (p := ⟨gb207, 1, none⟩) (Kd.R_far (p := ⟨gb207, 0, none⟩) (Kd.R_types HO192.out BK207.out (by decide)) (fun _ hk => hk.2) (.slice Ao28 t201.length co28)) (fun _ hk => hk.2) (.slice Ao32 t204.length co32)) (fun _ h_ => h_.1))) (Kd.R_base ho1) hb); replace HO198 := Aside0.mk (Kd.R_elder' (by (with_reducible repeat (first | apply Kd.R_alloc | apply Kd.R_drewN | apply Kd.R_drew)); exact (Kd.R_mono (Kd.R_far (p := ⟨gb207, 1, none⟩) (Kd.R_far (p := ⟨gb207, 0, none⟩) (Kd.R_types HO198.out BK207.out (by decide)) (fun _ hk => hk.2) (.slice Ao28 t201.length co28)) (fun _ hk => hk.2) (.slice Ao32 t204.length co32)) (fun _ h_ => h_.1))) (Kd.R_base ho1) hb); replace HO206 := Aside0.mk (Kd.R_elder' (by (with_reducible repeat (first | apply Kd.R_alloc | apply Kd.R_drewN | apply Kd.R_drew)); exact (Kd.R_mono (Kd.R_far (p := ⟨gb207, 1, none⟩) (Kd.R_far (p := ⟨gb207, 0, none⟩) (Kd.R_types HO206.out BK207.out (by decide)) (fun _ hk => hk.2) (.slice Ao28 t201.length co28)) (fun _ hk => hk.2) (.slice Ao32 t204.length co32)) (fun _ h_ => h_.1))) (Kd.R_base ho1) hb); replace BK185 := Aside0.mk (blk_below (g := gb185) (o := .cells #[.slice A0_0 l0_0.length c0_0, .slice A0_1 l0_1.length c0_1] 25 (0, 0)) (xff NB185_207.out NB185_207.out BK185.out) hb); replace BK200 := Aside0.mk (blk_below (g := gb200) (o := .cells #[.slice Ao21 t193.length co21, .slice Ao24 t196.length co24] 29 (0, 0)) (xff NB200_207.out NB200_207.out BK200.out) hb); replace BK207 := Aside0.mk (blk_below (g := gb207) (o := .cells #[.slice Ao28 t201.length co28, .slice Ao32 t204.length co32] 29 (0, 0)) (by (with_reducible repeat (first | refine blk_drewN ?_ _ | refine blk_drew ?_ | refine blk_alloc ?_ _)); refine blk_put (cs := #[.slice Ao28 t201.length co28, .slice none 0 0]) ?_ 1 _ rfl; (with_reducible repeat (first | refine blk_drewN ?_ _ | refine blk_drew ?_ | refine blk_alloc ?_ _)); refine blk_put (cs := #[.slice none 0 0, .slice none 0 0]) ?_ 0 _ rfl; (with_reducible repeat (first | refine blk_drewN ?_ _ | refine blk_drew ?_ | refine blk_alloc ?_ _)); exact BK207.out) hb); replace HB := xp HB hb; (try clear hb); (try clear hb2); (try clear hk); (try clear hi); (try clear ho0); (try clear ho1)) | ((with_reducible refine gate_dst (N := 7) rfl ?_); refine box_event ?hg (N := 7) ?hd (cs := #[.slice none 0 0, .slice none 0 0]) (t := 29) ?hr ?_; (case hd => rfl); (case hg => rfl); (case hr => first | (go_simp; done) | (go_simp; rfl)); intro gb215 hg w34 hbox hb; replace HO189 := xq HO189 hb; replace HO192 := xq HO192 hb; replace HO195 := xq HO195 hb; replace HO198 := xq HO198 hb; replace HO203 := xq HO203 hb; replace HO206 := xq HO206 hb; replace HO210 := xq HO210 hb; replace HO213 := xq HO213 hb; have BK215 := Aside0.mk (hbox); have GW215 := xg HB hg; have GE215 := xg HB hg; replace HB := xp HB hb; have NB185_215 := xl BK185 hg; have NB215_185 := xh BK185 hg; replace BK185 := xk BK185 hb; have NB200_215 := xl BK200 hg; have NB215_200 := xh BK200 hg; replace BK200 := xk BK200 hb; have NB207_215 := xl BK207 hg; have NB215_207 := xh BK207 hg; replace BK207 := xk BK207 hb; clear hb hbox hg; obtain ⟨Ao35, co35, eo35⟩ := Kd.R_slice HO210.out; subst eo35; have hnb36 := NB215_185.out; have hnc36 := NB185_215.out; have hnb37 := NB215_200.out; have hnc37 := NB200_215.out; have hnb38 := NB215_207.out; have hnc38 := NB207_215.out; have hcz39_0 : w34.cell? ⟨gb215, 0, none⟩ = some (.slice none 0 0) := (blk_cell BK215.out 0).trans rfl; have hcz39_1 : w34.cell? ⟨gb215, 1, none⟩ = some (.slice none 0 0) := (blk_cell BK215.out 1).trans rfl; have hfz39_0 := blk_frozen BK215.out 0; have hfz39_1 := blk_frozen BK215.out 1; obtain ⟨Ao40, co40, eo40⟩ := Kd.R_slice HO213.out; subst eo40))
  (try simp only [Act.put, List.setIfInBounds_toArray, List.set_cons_zero, List.set_cons_succ])
  go_cut [40] (fun v40 wc => ∃ (kq : Nat) (x40_10 : Bool), v40 = .bool x40_10 ∧ Aside0 (laws_FnExactReverseFlight.j0 kq t199 t214 x40_10 l0_0 l0_1 t193 t196 t201 t204 t208 t211 = some true) ∧ Aside0 (kq ≤ k) ∧ Aside0 (Kd.R (Kd.int .i64) 3 wc w.heap.size (fun k_ => nS k_ Ao28 t201.length co28 ∧ nS k_ Ao35 t208.length co35) (.slice Ao21 t193.length co21) t193) ∧ Aside0 (Kd.R Kd.bool 4 wc w.heap.size (fun k_ => nS k_ Ao32 t204.length co32 ∧ nS k_ Ao40 t211.length co40) (.slice Ao24 t196.length co24) t196) ∧ Aside0 (Kd.R (Kd.int .i64) 3 wc w.heap.size (fun k_ => nS k_ Ao21 t193.length co21 ∧ nS k_ Ao35 t208.length co35) (.slice Ao28 t201.length co28) t201) ∧ Aside0 (Kd.R Kd.bool 4 wc w.heap.size (fun k_ => nS k_ Ao24 t196.length co24 ∧ nS k_ Ao40 t211.length co40) (.slice Ao32 t204.length co32) t204) ∧ Aside0 (Kd.R (Kd.int .i64) 3 wc w.heap.size (fun k_ => nS k_ Ao21 t193.length co21 ∧ nS k_ Ao28 t201.length co28) (.slice Ao35 t208.length co35) t208) ∧ Aside0 (Kd.R Kd.bool 4 wc w.heap.size (fun k_ => nS k_ Ao24 t196.length co24 ∧ nS k_ Ao32 t204.length co32) (.slice Ao40 t211.length co40) t211) ∧ Aside0 (wc.heap[gb185]? = some (.cells #[(.slice A0_0 l0_0.length c0_0), (.slice A0_1 l0_1.length c0_1)] 25 (0, 0))) ∧ Aside0 (wc.heap[gb200]? = some (.cells #[(.slice Ao21 t193.length co21), (.slice Ao24 t196.length co24)] 29 (0, 0))) ∧ Aside0 (wc.heap[gb207]? = some (.cells #[(.slice Ao28 t201.length co28), (.slice Ao32 t204.length co32)] 29 (0, 0))) ∧ Aside0 (wc.heap[gb215]? = some (.cells #[(.slice Ao35 t208.length co35), (.slice Ao40 t211.length co40)] 29 (0, 0))) ∧ Aside0 (Below w.heap.size w wc))
  case first =>
   have H := HC11.out
   clear HC11
   replace H := Option.bind_eq_some_iff.mp H
   obtain ⟨t216, A410, H⟩ := H
   replace H : (if t216 = true then (laws_FnExactReverseFlight.j0 k t199 t214 (t214 != t199) l0_0 l0_1 t193 t196 t201 t204 t208 t211) else (laws_FnExactReverseFlight.j0 k t199 t214 true l0_0 l0_1 t193 t196 t201 t204 t208 t211)) = some true := H
   have A41 := Aside0.mk A410
   clear A410
   by_cases c42 : t216 = true
   ·subst c42
    have H1 : (laws_FnExactReverseFlight.j0 k t199 t214 (t214 != t199) l0_0 l0_1 t193 t196 t201 t204 t208 t211) = some true := by first | (rw [if_pos rfl] at H; exact H) | rfl
    clear H
    have H := H1
    clear H1
    have H' := Aside0.mk H
    clear H
    have hnb43 := NB215_185.out
    have hnc43 := NB185_215.out
    have hnb44 := NB215_200.out
    have hnc44 := NB200_215.out
    have hnb45 := NB215_207.out
    have hnc45 := NB207_215.out
    have hcz46_0 : w34.cell? ⟨gb215, 0, none⟩ = some (.slice none 0 0) := (blk_cell BK215.out 0).trans rfl
    have hcz46_1 : w34.cell? ⟨gb215, 1, none⟩ = some (.slice none 0 0) := (blk_cell BK215.out 1).trans rfl
    have hfz46_0 := blk_frozen BK215.out 0
    have hfz46_1 := blk_frozen BK215.out 1
    have hnb47 := NB200_185.out
    have hnc47 := NB185_200.out
    have hnb48 := NB200_207.out
    have hnc48 := NB207_200.out
    have hcz49_0 : w34.cell? ⟨gb200, 0, none⟩ = some (.slice Ao21 t193.length co21) := (blk_cell BK200.out 0).trans rfl
    have hcz49_1 : w34.cell? ⟨gb200, 1, none⟩ = some (.slice Ao24 t196.length co24) := (blk_cell BK200.out 1).trans rfl
    have hfz49_0 := blk_frozen BK200.out 0
    have hfz49_1 := blk_frozen BK200.out 1
    go_wp2_with (first | ((with_reducible refine gate_callee (f := 14) rfl ?_); refine goesL_ (some 34) rfl rfl Try.func14 (by kernel_rfl) rfl #[.agg #[.slice Ao35 t208.length co35, .slice Ao40 t211.length co40], .agg #[.slice Ao21 t193.length co21, .slice Ao24 t196.length co24]] rfl (by (try simp only [List.map_toArray, List.map_cons, List.map_nil]); first | done | rfl | (simp only [List.length_drop, List.length_take]; rfl)) ?_; (with_reducible refine (laws_eqFlight.calls k _ _ t208 _ _ t211 _ _ t193 _ _ t196 true _ ?side1 ?side2 ?side3 ?side4 ?side5 ?side6 ?side7 ?side8 A41.out).mono ?_); (case side1 => refine (Kd.R_reads' (e := 3) (base := w.heap.size) (ok := fun k_ => (((True ∧ nS k_ Ao17 t187.length co17) ∧ nS k_ Ao21 t193.length co21) ∧ nS k_ Ao28 t201.length co28)) (n := t208.length) (c := co35) ?_).2.2; exact (by (with_reducible repeat (first | apply Kd.R_alloc | apply Kd.R_drewN | apply Kd.R_drew)); exact (Kd.R_mono (Kd.R_far (p := ⟨gb215, 1, none⟩) (Kd.R_far (p := ⟨gb215, 0, none⟩) (Kd.R_types HO210.out BK215.out (by decide)) (fun _ hk => hk.2) (.slice Ao35 t208.length co35)) (fun _ hk => hk.2) (.slice Ao40 t211.length co40)) (fun _ h_ => h_.1)))); (case side2 => exact (Kd.R_reads' HO210.out).2.1); (case side3 => refine (Kd.R_reads' (e := 4) (base := w.heap.size) (ok := fun k_ => (((True ∧ nS k_ Ao18 t190.length co18) ∧ nS k_ Ao24 t196.length co24) ∧ nS k_ Ao32 t204.length co32)) (n := t211.length) (c := co40) ?_).2.2; exact (by (with_reducible repeat (first | apply Kd.R_alloc | apply Kd.R_drewN | apply Kd.R_drew)); exact (Kd.R_mono (Kd.R_far (p := ⟨gb215, 1, none⟩) (Kd.R_far (p := ⟨gb215, 0, none⟩) (Kd.R_types HO213.out BK215.out (by decide)) (fun _ hk => hk.2) (.slice Ao35 t208.length co35)) (fun _ hk => hk.2) (.slice Ao40 t211.length co40)) (fun _ h_ => h_.1)))); (case side4 => exact (Kd.R_reads' HO213.out).2.1); (case side5 => refine (Kd.R_reads' (e := 3) (base := w.heap.size) (ok := fun k_ => (((True ∧ nS k_ Ao17 t187.length co17) ∧ nS k_ Ao28 t201.length co28) ∧ nS k_ Ao35 t208.length co35)) (n := t193.length) (c := co21) ?_).2.2; exact (by (with_reducible repeat (first | apply Kd.R_alloc | apply Kd.R_drewN | apply Kd.R_drew)); exact (Kd.R_mono (Kd.R_far (p := ⟨gb215, 1, none⟩) (Kd.R_far (p := ⟨gb215, 0, none⟩) (Kd.R_types HO195.out BK215.out (by decide)) (fun _ hk => hk.2) (.slice Ao35 t208.length co35)) (fun _ hk => hk.2) (.slice Ao40 t211.length co40)) (fun _ h_ => h_.1)))); (case side6 => exact (Kd.R_reads' HO195.out).2.1); (case side7 => refine (Kd.R_reads' (e := 4) (base := w.heap.size) (ok := fun k_ => (((True ∧ nS k_ Ao18 t190.length co18) ∧ nS k_ Ao32 t204.length co32) ∧ nS k_ Ao40 t211.length co40)) (n := t196.length) (c := co24) ?_).2.2; exact (by (with_reducible repeat (first | apply Kd.R_alloc | apply Kd.R_drewN | apply Kd.R_drew)); exact (Kd.R_mono (Kd.R_far (p := ⟨gb215, 1, none⟩) (Kd.R_far (p := ⟨gb215, 0, none⟩) (Kd.R_types HO198.out BK215.out (by decide)) (fun _ hk => hk.2) (.slice Ao35 t208.length co35)) (fun _ hk => hk.2) (.slice Ao40 t211.length co40)) (fun _ h_ => h_.1)))); (case side8 => exact (Kd.R_reads' HO198.out).2.1); rintro e w50 ⟨rfl, hb⟩; refine ⟨_, rfl, ?_⟩; replace HO189 := Aside0.mk (Kd.R_below (by (with_reducible repeat (first | apply Kd.R_alloc | apply Kd.R_drewN | apply Kd.R_drew)); exact (Kd.R_mono (Kd.R_far (p := ⟨gb215, 1, none⟩) (Kd.R_far (p := ⟨gb215, 0, none⟩) (Kd.R_types HO189.out BK215.out (by decide)) (fun _ hk => hk.2) (.slice Ao35 t208.length co35)) (fun _ hk => hk.2) (.slice Ao40 t211.length co40)) (fun _ h_ => h_.1))) hb); replace HO192 := Aside0.mk (Kd.R_below (by (with_reducible repeat (first | apply Kd.R_alloc | apply Kd.R_drewN | apply Kd.R_drew)); exact (Kd.R_mono (Kd.R_far (p := ⟨gb215, 1, none⟩) (Kd.R_far (p := ⟨gb215, 0, none⟩) (Kd.R_types HO192.out BK215.out (by decide)) (fun _ hk => hk.2) (.slice Ao35 t208.length co35)) (fun _ hk => hk.2) (.slice Ao40 t211.length co40)) (fun _ h_ => h_.1))) hb); replace HO195 := Aside0.mk (Kd.R_below (by (with_reducible repeat (first | apply Kd.R_alloc | apply Kd.R_drewN | apply Kd.R_drew)); exact (Kd.R_mono (Kd.R_far (p := ⟨gb215, 1, none⟩) (Kd.R_far (p := ⟨gb215, 0, none⟩) (Kd.R_types HO195.out BK215.out (by decide)) (fun _ hk => hk.2) (.slice Ao35 t208.length co35)) (fun _ hk => hk.2) (.slice Ao40 t211.length co40)) (fun _ h_ => h_.1))) hb); replace HO198 := Aside0.mk (Kd.R_below (by (with_reducible repeat (first | apply Kd.R_alloc | apply Kd.R_drewN | apply Kd.R_drew)); exact (Kd.R_mono (Kd.R_far (p := ⟨gb215, 1, none⟩) (Kd.R_far (p := ⟨gb215, 0, none⟩) (Kd.R_types HO198.out BK215.out (by decide)) (fun _ hk => hk.2) (.slice Ao35 t208.length co35)) (fun _ hk => hk.2) (.slice Ao40 t211.length co40)) (fun _ h_ => h_.1))) hb); replace HO203 := Aside0.mk (Kd.R_below (by (with_reducible repeat (first | apply Kd.R_alloc | apply Kd.R_drewN | apply Kd.R_drew)); exact (Kd.R_mono (Kd.R_far (p := ⟨gb215, 1, none⟩) (Kd.R_far (p := ⟨gb215, 0, none⟩) (Kd.R_types HO203.out BK215.out (by decide)) (fun _ hk => hk.2) (.slice Ao35 t208.length co35)) (fun _ hk => hk.2) (.slice Ao40 t211.length co40)) (fun _ h_ => h_.1))) hb); replace HO206 := Aside0.mk (Kd.R_below (by (with_reducible repeat (first | apply Kd.R_alloc | apply Kd.R_drewN | apply Kd.R_drew)); exact (Kd.R_mono (Kd.R_far (p := ⟨gb215, 1, none⟩) (Kd.R_far (p := ⟨gb215, 0, none⟩) (Kd.R_types HO206.out BK215.out (by decide)) (fun _ hk => hk.2) (.slice Ao35 t208.length co35)) (fun _ hk => hk.2) (.slice Ao40 t211.length co40)) (fun _ h_ => h_.1))) hb); replace HO210 := Aside0.mk (Kd.R_below (by (with_reducible repeat (first | apply Kd.R_alloc | apply Kd.R_drewN | apply Kd.R_drew)); exact (Kd.R_mono (Kd.R_far (p := ⟨gb215, 1, none⟩) (Kd.R_far (p := ⟨gb215, 0, none⟩) (Kd.R_types HO210.out BK215.out (by decide)) (fun _ hk => hk.2) (.slice Ao35 t208.length co35)) (fun _ hk => hk.2) (.slice Ao40 t211.length co40)) (fun _ h_ => h_.1))) hb); replace HO213 := Aside0.mk (Kd.R_below (by (with_reducible repeat (first | apply Kd.R_alloc | apply Kd.R_drewN | apply Kd.R_drew)); exact (Kd.R_mono (Kd.R_far (p := ⟨gb215, 1, none⟩) (Kd.R_far (p := ⟨gb215, 0, none⟩) (Kd.R_types HO213.out BK215.out (by decide)) (fun _ hk => hk.2) (.slice Ao35 t208.length co35)) (fun _ hk => hk.2) (.slice Ao40 t211.length co40)) (fun _ h_ => h_.1))) hb); replace BK185 := Aside0.mk (blk_below (g := gb185) (o := .cells #[.slice A0_0 l0_0.length c0_0, .slice A0_1 l0_1.length c0_1] 25 (0, 0)) (xff NB185_215.out NB185_215.out BK185.out) hb); replace BK200 := Aside0.mk (blk_below (g := gb200) (o := .cells #[.slice Ao21 t193.length co21, .slice Ao24 t196.length co24] 29 (0, 0)) (xff NB200_215.out NB200_215.out BK200.out) hb); replace BK207 := Aside0.mk (blk_below (g := gb207) (o := .cells #[.slice Ao28 t201.length co28, .slice Ao32 t204.length co32] 29 (0, 0)) (xff NB207_215.out NB207_215.out BK207.out) hb); replace BK215 := Aside0.mk (blk_below (g := gb215) (o := .cells #[.slice Ao35 t208.length co35, .slice Ao40 t211.length co40] 29 (0, 0)) (by (with_reducible repeat (first | refine blk_drewN ?_ _ | refine blk_drew ?_ | refine blk_alloc ?_ _)); refine blk_put (cs := #[.slice Ao35 t208.length co35, .slice none 0 0]) ?_ 1 _ rfl; (with_reducible repeat (first | refine blk_drewN ?_ _ | refine blk_drew ?_ | refine blk_alloc ?_ _)); refine blk_put (cs := #[.slice none 0 0, .slice none 0 0]) ?_ 0 _ rfl; (with_reducible repeat (first | refine blk_drewN ?_ _ | refine blk_drew ?_ | refine blk_alloc ?_ _)); exact BK215.out) hb); replace HB := xp HB hb; (try clear hb); (try clear hb2); (try clear hk); (try clear hi)))
    go_meet
    case rel => exact ⟨_, ((t214 != t199)), (by first | rfl | (simp; done) | (simp [*]; done)), H', ⟨by first | omega | exact Nat.le_refl _⟩, ⟨xm HO195 (fun _ hk => ⟨hk.1.2, hk.2⟩)⟩, ⟨xm HO198 (fun _ hk => ⟨hk.1.2, hk.2⟩)⟩, ⟨xm HO203 (fun _ hk => ⟨hk.1.2, hk.2⟩)⟩, ⟨xm HO206 (fun _ hk => ⟨hk.1.2, hk.2⟩)⟩, ⟨xm HO210 (fun _ hk => ⟨hk.1.2, hk.2⟩)⟩, ⟨xm HO213 (fun _ hk => ⟨hk.1.2, hk.2⟩)⟩, ⟨xb BK185.out⟩, ⟨xb BK200.out⟩, ⟨xb BK207.out⟩, ⟨xb BK215.out⟩, ⟨xs HB.out⟩⟩
   ·replace c42 := Bool.eq_false_iff.mpr c42
    subst c42
    have H1 : (laws_FnExactReverseFlight.j0 k t199 t214 true l0_0 l0_1 t193 t196 t201 t204 t208 t211) = some true := by first | (rw [if_neg (show ¬ (false = true) by decide)] at H; exact H) | rfl
    clear H
    have H := H1
    clear H1
    have H' := Aside0.mk H
    clear H
    have hnb51 := NB215_185.out
    have hnc51 := NB185_215.out
    have hnb52 := NB215_200.out
    have hnc52 := NB200_215.out
    have hnb53 := NB215_207.out
    have hnc53 := NB207_215.out
    have hcz54_0 : w34.cell? ⟨gb215, 0, none⟩ = some (.slice none 0 0) := (blk_cell BK215.out 0).trans rfl
    have hcz54_1 : w34.cell? ⟨gb215, 1, none⟩ = some (.slice none 0 0) := (blk_cell BK215.out 1).trans rfl
    have hfz54_0 := blk_frozen BK215.out 0
    have hfz54_1 := blk_frozen BK215.out 1
    have hnb55 := NB200_185.out
    have hnc55 := NB185_200.out
    have hnb56 := NB200_207.out
    have hnc56 := NB207_200.out
    have hcz57_0 : w34.cell? ⟨gb200, 0, none⟩ = some (.slice Ao21 t193.length co21) := (blk_cell BK200.out 0).trans rfl
    have hcz57_1 : w34.cell? ⟨gb200, 1, none⟩ = some (.slice Ao24 t196.length co24) := (blk_cell BK200.out 1).trans rfl
    have hfz57_0 := blk_frozen BK200.out 0
    have hfz57_1 := blk_frozen BK200.out 1
    go_wp2_with (first | ((with_reducible refine gate_callee (f := 14) rfl ?_); refine goesL_ (some 34) rfl rfl Try.func14 (by kernel_rfl) rfl #[.agg #[.slice Ao35 t208.length co35, .slice Ao40 t211.length co40], .agg #[.slice Ao21 t193.length co21, .slice Ao24 t196.length co24]] rfl (by (try simp only [List.map_toArray, List.map_cons, List.map_nil]); first | done | rfl | (simp only [List.length_drop, List.length_take]; rfl)) ?_; (with_reducible refine (laws_eqFlight.calls k _ _ t208 _ _ t211 _ _ t193 _ _ t196 false _ ?side1 ?side2 ?side3 ?side4 ?side5 ?side6 ?side7 ?side8 A41.out).mono ?_); (case side1 => refine (Kd.R_reads' (e := 3) (base := w.heap.size) (ok := fun k_ => (((True ∧ nS k_ Ao17 t187.length co17) ∧ nS k_ Ao21 t193.length co21) ∧ nS k_ Ao28 t201.length co28)) (n := t208.length) (c := co35) ?_).2.2; exact (by (with_reducible repeat (first | apply Kd.R_alloc | apply Kd.R_drewN | apply Kd.R_drew)); exact (Kd.R_mono (Kd.R_far (p := ⟨gb215, 1, none⟩) (Kd.R_far (p := ⟨gb215, 0, none⟩) (Kd.R_types HO210.out BK215.out (by decide)) (fun _ hk => hk.2) (.slice Ao35 t208.length co35)) (fun _ hk => hk.2) (.slice Ao40 t211.length co40)) (fun _ h_ => h_.1)))); (case side2 => exact (Kd.R_reads' HO210.out).2.1); (case side3 => refine (Kd.R_reads' (e := 4) (base := w.heap.size) (ok := fun k_ => (((True ∧ nS k_ Ao18 t190.length co18) ∧ nS k_ Ao24 t196.length co24) ∧ nS k_ Ao32 t204.length co32)) (n := t211.length) (c := co40) ?_).2.2; exact (by (with_reducible repeat (first | apply Kd.R_alloc | apply Kd.R_drewN | apply Kd.R_drew)); exact (Kd.R_mono (Kd.R_far (p := ⟨gb215, 1, none⟩) (Kd.R_far (p := ⟨gb215, 0, none⟩) (Kd.R_types HO213.out BK215.out (by decide)) (fun _ hk => hk.2) (.slice Ao35 t208.length co35)) (fun _ hk => hk.2) (.slice Ao40 t211.length co40)) (fun _ h_ => h_.1)))); (case side4 => exact (Kd.R_reads' HO213.out).2.1); (case side5 => refine (Kd.R_reads' (e := 3) (base := w.heap.size) (ok := fun k_ => (((True ∧ nS k_ Ao17 t187.length co17) ∧ nS k_ Ao28 t201.length co28) ∧ nS k_ Ao35 t208.length co35)) (n := t193.length) (c := co21) ?_).2.2; exact (by (with_reducible repeat (first | apply Kd.R_alloc | apply Kd.R_drewN | apply Kd.R_drew)); exact (Kd.R_mono (Kd.R_far (p := ⟨gb215, 1, none⟩) (Kd.R_far (p := ⟨gb215, 0, none⟩) (Kd.R_types HO195.out BK215.out (by decide)) (fun _ hk => hk.2) (.slice Ao35 t208.length co35)) (fun _ hk => hk.2) (.slice Ao40 t211.length co40)) (fun _ h_ => h_.1)))); (case side6 => exact (Kd.R_reads' HO195.out).2.1); (case side7 => refine (Kd.R_reads' (e := 4) (base := w.heap.size) (ok := fun k_ => (((True ∧ nS k_ Ao18 t190.length co18) ∧ nS k_ Ao32 t204.length co32) ∧ nS k_ Ao40 t211.length co40)) (n := t196.length) (c := co24) ?_).2.2; exact (by (with_reducible repeat (first | apply Kd.R_alloc | apply Kd.R_drewN | apply Kd.R_drew)); exact (Kd.R_mono (Kd.R_far (p := ⟨gb215, 1, none⟩) (Kd.R_far (p := ⟨gb215, 0, none⟩) (Kd.R_types HO198.out BK215.out (by decide)) (fun _ hk => hk.2) (.slice Ao35 t208.length co35)) (fun _ hk => hk.2) (.slice Ao40 t211.length co40)) (fun _ h_ => h_.1)))); (case side8 => exact (Kd.R_reads' HO198.out).2.1); rintro e w58 ⟨rfl, hb⟩; refine ⟨_, rfl, ?_⟩; replace HO189 := Aside0.mk (Kd.R_below (by (with_reducible repeat (first | apply Kd.R_alloc | apply Kd.R_drewN | apply Kd.R_drew)); exact (Kd.R_mono (Kd.R_far (p := ⟨gb215, 1, none⟩) (Kd.R_far (p := ⟨gb215, 0, none⟩) (Kd.R_types HO189.out BK215.out (by decide)) (fun _ hk => hk.2) (.slice Ao35 t208.length co35)) (fun _ hk => hk.2) (.slice Ao40 t211.length co40)) (fun _ h_ => h_.1))) hb); replace HO192 := Aside0.mk (Kd.R_below (by (with_reducible repeat (first | apply Kd.R_alloc | apply Kd.R_drewN | apply Kd.R_drew)); exact (Kd.R_mono (Kd.R_far (p := ⟨gb215, 1, none⟩) (Kd.R_far (p := ⟨gb215, 0, none⟩) (Kd.R_types HO192.out BK215.out (by decide)) (fun _ hk => hk.2) (.slice Ao35 t208.length co35)) (fun _ hk => hk.2) (.slice Ao40 t211.length co40)) (fun _ h_ => h_.1))) hb); replace HO195 := Aside0.mk (Kd.R_below (by (with_reducible repeat (first | apply Kd.R_alloc | apply Kd.R_drewN | apply Kd.R_drew)); exact (Kd.R_mono (Kd.R_far (p := ⟨gb215, 1, none⟩) (Kd.R_far (p := ⟨gb215, 0, none⟩) (Kd.R_types HO195.out BK215.out (by decide)) (fun _ hk => hk.2) (.slice Ao35 t208.length co35)) (fun _ hk => hk.2) (.slice Ao40 t211.length co40)) (fun _ h_ => h_.1))) hb); replace HO198 := Aside0.mk (Kd.R_below (by (with_reducible repeat (first | apply Kd.R_alloc | apply Kd.R_drewN | apply Kd.R_drew)); exact (Kd.R_mono (Kd.R_far (p := ⟨gb215, 1, none⟩) (Kd.R_far (p := ⟨gb215, 0, none⟩) (Kd.R_types HO198.out BK215.out (by decide)) (fun _ hk => hk.2) (.slice Ao35 t208.length co35)) (fun _ hk => hk.2) (.slice Ao40 t211.length co40)) (fun _ h_ => h_.1))) hb); replace HO203 := Aside0.mk (Kd.R_below (by (with_reducible repeat (first | apply Kd.R_alloc | apply Kd.R_drewN | apply Kd.R_drew)); exact (Kd.R_mono (Kd.R_far (p := ⟨gb215, 1, none⟩) (Kd.R_far (p := ⟨gb215, 0, none⟩) (Kd.R_types HO203.out BK215.out (by decide)) (fun _ hk => hk.2) (.slice Ao35 t208.length co35)) (fun _ hk => hk.2) (.slice Ao40 t211.length co40)) (fun _ h_ => h_.1))) hb); replace HO206 := Aside0.mk (Kd.R_below (by (with_reducible repeat (first | apply Kd.R_alloc | apply Kd.R_drewN | apply Kd.R_drew)); exact (Kd.R_mono (Kd.R_far (p := ⟨gb215, 1, none⟩) (Kd.R_far (p := ⟨gb215, 0, none⟩) (Kd.R_types HO206.out BK215.out (by decide)) (fun _ hk => hk.2) (.slice Ao35 t208.length co35)) (fun _ hk => hk.2) (.slice Ao40 t211.length co40)) (fun _ h_ => h_.1))) hb); replace HO210 := Aside0.mk (Kd.R_below (by (with_reducible repeat (first | apply Kd.R_alloc | apply Kd.R_drewN | apply Kd.R_drew)); exact (Kd.R_mono (Kd.R_far (p := ⟨gb215, 1, none⟩) (Kd.R_far (p := ⟨gb215, 0, none⟩) (Kd.R_types HO210.out BK215.out (by decide)) (fun _ hk => hk.2) (.slice Ao35 t208.length co35)) (fun _ hk => hk.2) (.slice Ao40 t211.length co40)) (fun _ h_ => h_.1))) hb); replace HO213 := Aside0.mk (Kd.R_below (by (with_reducible repeat (first | apply Kd.R_alloc | apply Kd.R_drewN | apply Kd.R_drew)); exact (Kd.R_mono (Kd.R_far (p := ⟨gb215, 1, none⟩) (Kd.R_far (p := ⟨gb215, 0, none⟩) (Kd.R_types HO213.out BK215.out (by decide)) (fun _ hk => hk.2) (.slice Ao35 t208.length co35)) (fun _ hk => hk.2) (.slice Ao40 t211.length co40)) (fun _ h_ => h_.1))) hb); replace BK185 := Aside0.mk (blk_below (g := gb185) (o := .cells #[.slice A0_0 l0_0.length c0_0, .slice A0_1 l0_1.length c0_1] 25 (0, 0)) (xff NB185_215.out NB185_215.out BK185.out) hb); replace BK200 := Aside0.mk (blk_below (g := gb200) (o := .cells #[.slice Ao21 t193.length co21, .slice Ao24 t196.length co24] 29 (0, 0)) (xff NB200_215.out NB200_215.out BK200.out) hb); replace BK207 := Aside0.mk (blk_below (g := gb207) (o := .cells #[.slice Ao28 t201.length co28, .slice Ao32 t204.length co32] 29 (0, 0)) (xff NB207_215.out NB207_215.out BK207.out) hb); replace BK215 := Aside0.mk (blk_below (g := gb215) (o := .cells #[.slice Ao35 t208.length co35, .slice Ao40 t211.length co40] 29 (0, 0)) (by (with_reducible repeat (first | refine blk_drewN ?_ _ | refine blk_drew ?_ | refine blk_alloc ?_ _)); refine blk_put (cs := #[.slice Ao35 t208.length co35, .slice none 0 0]) ?_ 1 _ rfl; (with_reducible repeat (first | refine blk_drewN ?_ _ | refine blk_drew ?_ | refine blk_alloc ?_ _)); refine blk_put (cs := #[.slice none 0 0, .slice none 0 0]) ?_ 0 _ rfl; (with_reducible repeat (first | refine blk_drewN ?_ _ | refine blk_drew ?_ | refine blk_alloc ?_ _)); exact BK215.out) hb); replace HB := xp HB hb; (try clear hb); (try clear hb2); (try clear hk); (try clear hi)))
    go_meet
    case rel => exact ⟨_, (true), (by first | rfl | (simp; done) | (simp [*]; done)), H', ⟨by first | omega | exact Nat.le_refl _⟩, ⟨xm HO195 (fun _ hk => ⟨hk.1.2, hk.2⟩)⟩, ⟨xm HO198 (fun _ hk => ⟨hk.1.2, hk.2⟩)⟩, ⟨xm HO203 (fun _ hk => ⟨hk.1.2, hk.2⟩)⟩, ⟨xm HO206 (fun _ hk => ⟨hk.1.2, hk.2⟩)⟩, ⟨xm HO210 (fun _ hk => ⟨hk.1.2, hk.2⟩)⟩, ⟨xm HO213 (fun _ hk => ⟨hk.1.2, hk.2⟩)⟩, ⟨xb BK185.out⟩, ⟨xb BK200.out⟩, ⟨xb BK207.out⟩, ⟨xb BK215.out⟩, ⟨xs HB.out⟩⟩
  case rest =>
   clear HC11
   try clear c1
   try clear c2
   try clear p2
   try clear c3
   try clear c3b0
   try clear c4
   try clear c5
   try clear c10
   try clear c12
   try clear c14
   try clear c17
   try clear c18
   try clear c22
   try clear c29
   try clear c30
   try clear c36
   try clear c37
   try clear c38
   try clear c42
   try clear c43
   try clear c44
   try clear c45
   try clear c47
   try clear c48
   try clear c51
   try clear c52
   try clear c53
   try clear c55
   try clear c56
   try clear hcz13_0
   try clear hcz13_1
   try clear hcz15_0
   try clear hcz15_1
   try clear hcz23_0
   try clear hcz23_1
   try clear hcz25_0
   try clear hcz25_1
   try clear hcz31_0
   try clear hcz31_1
   try clear hcz39_0
   try clear hcz39_1
   try clear hcz46_0
   try clear hcz46_1
   try clear hcz49_0
   try clear hcz49_1
   try clear hcz54_0
   try clear hcz54_1
   try clear hcz57_0
   try clear hcz57_1
   try clear hcz5_0
   try clear hcz5_1
   try clear hfz13_0
   try clear hfz13_1
   try clear hfz15_0
   try clear hfz15_1
   try clear hfz23_0
   try clear hfz23_1
   try clear hfz25_0
   try clear hfz25_1
   try clear hfz31_0
   try clear hfz31_1
   try clear hfz39_0
   try clear hfz39_1
   try clear hfz46_0
   try clear hfz46_1
   try clear hfz49_0
   try clear hfz49_1
   try clear hfz54_0
   try clear hfz54_1
   try clear hfz57_0
   try clear hfz57_1
   try clear hfz5_0
   try clear hfz5_1
   obtain ⟨kq, x40_10, rfl, HA, HJ10, HO_201000, HO_201001, HO_208000, HO_208001, HO_216000, HO_216001, BK185, BK200, BK207, BK215, HB⟩ := hcut
   cases kq with
   | zero => exact absurd HA.out (by simp [laws_FnExactReverseFlight.j0])
   | succ kj10 =>
    have H := HA.out
    clear HA
    simp only [laws_FnExactReverseFlight.j0] at H
    by_cases c59 : x40_10 = true
    ·subst c59
     have H1 : (some false) = some true := by first | (rw [if_pos rfl] at H; exact H) | rfl
     clear H
     have H := H1
     clear H1
     exact absurd H (by simp)
    ·replace c59 := Bool.eq_false_iff.mpr c59
     subst c59
     have H1 : ((laws_toFlight.f kj10 l0_0 l0_1).bind fun bt217 => ((laws_eqFlight.f kj10 t201 t204 bt217.1 bt217.2).bind fun t223 => (if t223 = true then ((laws_markFlight.f kj10 t201 t204 1).bind fun bt224 => (if bt224.1 < 0 then (laws_FnExactReverseFlight.j1 kj10 t199 true l0_0 l0_1 t193 t196 t208 t211) else ((laws_eqFlight.f kj10 t208 t211 t193 t196).bind fun t227 => (if t227 = true then (laws_FnExactReverseFlight.j1 kj10 t199 (t214 != t199) l0_0 l0_1 t193 t196 t208 t211) else (laws_FnExactReverseFlight.j1 kj10 t199 true l0_0 l0_1 t193 t196 t208 t211))))) else (some false)))) = some true := by first | (rw [if_neg (show ¬ (false = true) by decide)] at H; exact H) | rfl
     clear H
     have H := H1
     clear H1
     replace H := Option.bind_eq_some_iff.mp H
     obtain ⟨⟨t217, t220⟩, A600, H⟩ := H
     replace H : ((laws_eqFlight.f kj10 t201 t204 t217 t220).bind fun t223 => (if t223 = true then ((laws_markFlight.f kj10 t201 t204 1).bind fun bt224 => (if bt224.1 < 0 then (laws_FnExactReverseFlight.j1 kj10 t199 true l0_0 l0_1 t193 t196 t208 t211) else ((laws_eqFlight.f kj10 t208 t211 t193 t196).bind fun t227 => (if t227 = true then (laws_FnExactReverseFlight.j1 kj10 t199 (t214 != t199) l0_0 l0_1 t193 t196 t208 t211) else (laws_FnExactReverseFlight.j1 kj10 t199 true l0_0 l0_1 t193 t196 t208 t211))))) else (some false))) = some true := H
     have A60 := Aside0.mk A600
     clear A600
     replace H := Option.bind_eq_some_iff.mp H
     obtain ⟨t223, A610, H⟩ := H
     replace H : (if t223 = true then ((laws_markFlight.f kj10 t201 t204 1).bind fun bt224 => (if bt224.1 < 0 then (laws_FnExactReverseFlight.j1 kj10 t199 true l0_0 l0_1 t193 t196 t208 t211) else ((laws_eqFlight.f kj10 t208 t211 t193 t196).bind fun t227 => (if t227 = true then (laws_FnExactReverseFlight.j1 kj10 t199 (t214 != t199) l0_0 l0_1 t193 t196 t208 t211) else (laws_FnExactReverseFlight.j1 kj10 t199 true l0_0 l0_1 t193 t196 t208 t211))))) else (some false)) = some true := H
     have A61 := Aside0.mk A610
     clear A610
     by_cases c62 : t223 = true
     ·subst c62
      have H1 : ((laws_markFlight.f kj10 t201 t204 1).bind fun bt224 => (if bt224.1 < 0 then (laws_FnExactReverseFlight.j1 kj10 t199 true l0_0 l0_1 t193 t196 t208 t211) else ((laws_eqFlight.f kj10 t208 t211 t193 t196).bind fun t227 => (if t227 = true then (laws_FnExactReverseFlight.j1 kj10 t199 (t214 != t199) l0_0 l0_1 t193 t196 t208 t211) else (laws_FnExactReverseFlight.j1 kj10 t199 true l0_0 l0_1 t193 t196 t208 t211))))) = some true := by first | (rw [if_pos rfl] at H; exact H) | rfl
      clear H
      have H := H1
      clear H1
      replace H := Option.bind_eq_some_iff.mp H
      obtain ⟨⟨t224, t225, t226⟩, A630, H⟩ := H
      replace H : (if t224 < 0 then (laws_FnExactReverseFlight.j1 kj10 t199 true l0_0 l0_1 t193 t196 t208 t211) else ((laws_eqFlight.f kj10 t208 t211 t193 t196).bind fun t227 => (if t227 = true then (laws_FnExactReverseFlight.j1 kj10 t199 (t214 != t199) l0_0 l0_1 t193 t196 t208 t211) else (laws_FnExactReverseFlight.j1 kj10 t199 true l0_0 l0_1 t193 t196 t208 t211)))) = some true := H
      have A63 := Aside0.mk A630
      clear A630
      have HC64 := Aside0.mk H
      clear H
      try go_wp2
      replace HO_201000 := xw HO_201000
      replace HO_201001 := xw HO_201001
      replace HO_208000 := xw HO_208000
      replace HO_208001 := xw HO_208001
      replace HO_216000 := xw HO_216000
      replace HO_216001 := xw HO_216001
      replace BK185 := xv BK185
      replace BK200 := xv BK200
      replace BK207 := xv BK207
      replace BK215 := xv BK215
      replace HB := Aside0.mk (below_drew1 HB.out)
      refine start_ (n := 5) (S := fun w' => w'.cell? ⟨gb207, 0, none⟩ = some (.slice Ao28 t201.length co28) ∧ w'.cell? ⟨gb207, 1, none⟩ = some (.slice Ao32 t204.length co32) ∧ w'.cell? ⟨gb185, 0, none⟩ = some (.slice A0_0 l0_0.length c0_0) ∧ w'.cell? ⟨gb185, 1, none⟩ = some (.slice A0_1 l0_1.length c0_1)) (ds := []) #[false, false, false, false, false] (by kernel_rfl) rfl rfl ⟨(blk_cell BK207.out 0).trans rfl, (blk_cell BK207.out 1).trans rfl, (blk_cell BK185.out 0).trans rfl, (blk_cell BK185.out 1).trans rfl⟩ (fun hHeld => ?_)
      generalize wc.drew = w65 at HO_201000 HO_201001 HO_208000 HO_208001 HO_216000 HO_216001 BK185 BK200 BK207 BK215 HB hHeld ⊢
      refine take_ (i := 0) (N := some 41) (v := ?_) (a' := ?_) #[true, false, false, false, false] rfl rfl (by kernel_rfl) (fun _ _ _ h => h) (Or.inl ⟨by rfl, ?_⟩) hHeld ?_ ?_
      rotate_left
      ·rintro w' ⟨s0, s1, s2, s3⟩
       go_simp
       with_reducible rfl
      rotate_left
      ·simp only [Act.put, List.setIfInBounds_toArray, List.set_cons_zero, List.set_cons_succ, i64_w, i32_w]
       rfl
      refine take_ (i := 1) (N := some 42) (v := ?_) (a' := ?_) #[true, true, false, false, false] rfl rfl (by kernel_rfl) (fun _ _ _ h => h) (Or.inl ⟨by rfl, ?_⟩) hHeld ?_ ?_
      rotate_left
      ·rintro w' ⟨s0, s1, s2, s3⟩
       go_simp
       with_reducible rfl
      rotate_left
      ·simp only [Act.put, List.setIfInBounds_toArray, List.set_cons_zero, List.set_cons_succ, i64_w, i32_w]
       rfl
      refine one_ (i := 2) (N := some 43) #[true, true, true, false, false] rfl rfl (by kernel_rfl) (by decide) (fun K hK => ?_)
      refine goes_ Try.func12 (by kernel_rfl) rfl #[.agg #[.slice A0_0 l0_0.length c0_0, .slice A0_1 l0_1.length c0_1]] (by rfl) rfl rfl (by (try simp only [List.map_toArray, List.map_cons, List.map_nil]); first | done | rfl | (simp only [List.length_drop, List.length_take]; rfl)) ?_
      with_reducible refine (laws_toFlight.calls kj10 _ _ l0_0 _ _ l0_1 t217 t220 _ ?side1 ?side2 ?side3 ?side4 A60.out).mono ?_
      (case side1 => exact xd ((Kd.C_below HR0_0.out HB.out)))
      (case side2 => exact HC0_0.out)
      (case side3 => exact xd ((Kd.C_below HR0_1.out HB.out)))
      (case side4 => exact HC0_1.out)
      rintro e w66 ⟨v218, v221, rfl, ho0, ho1, hb⟩
      refine ⟨_, rfl, ?_⟩
      have HO219 := Aside0.mk (Kd.R_lower (Kd.R_new' (Kd.R_new' (Kd.R_new' ho0 (Kd.R_lt (xr HO_201000.out))) (Kd.R_lt (xr HO_208000.out))) (Kd.R_lt (xr HO_216000.out))) (below_size (xs HB.out)))
      replace HO_201000 := Aside0.mk (Kd.R_elder' (xr HO_201000.out) (Kd.R_base ho0) hb)
      replace HO_208000 := Aside0.mk (Kd.R_elder' (xr HO_208000.out) (Kd.R_base ho0) hb)
      replace HO_216000 := Aside0.mk (Kd.R_elder' (xr HO_216000.out) (Kd.R_base ho0) hb)
      have HO222 := Aside0.mk (Kd.R_lower (Kd.R_new' (Kd.R_new' (Kd.R_new' ho1 (Kd.R_lt (xr HO_201001.out))) (Kd.R_lt (xr HO_208001.out))) (Kd.R_lt (xr HO_216001.out))) (below_size (xs HB.out)))
      replace HO_201001 := Aside0.mk (Kd.R_elder' (xr HO_201001.out) (Kd.R_base ho1) hb)
      replace HO_208001 := Aside0.mk (Kd.R_elder' (xr HO_208001.out) (Kd.R_base ho1) hb)
      replace HO_216001 := Aside0.mk (Kd.R_elder' (xr HO_216001.out) (Kd.R_base ho1) hb)
      replace BK185 := xk BK185 hb
      replace BK200 := xk BK200 hb
      replace BK207 := xk BK207 hb
      replace BK215 := xk BK215 hb
      replace HB := xp HB hb
      (try clear hb)
      (try clear hb2)
      (try clear hk)
      (try clear hi)
      (try clear ho0)
      (try clear ho1)
      obtain ⟨Ao67, co67, eo67⟩ := Kd.R_slice HO219.out
      (first | subst eo67 | (injection eo67 with f1_ f2_ f3_; have f4_ := f1_.symm; have f5_ := f3_.symm; clear f1_ f2_ f3_; subst f4_; subst f5_))
      obtain ⟨Ao68, co68, eo68⟩ := Kd.R_slice HO222.out
      (first | subst eo68 | (injection eo68 with f1_ f2_ f3_; have f4_ := f1_.symm; have f5_ := f3_.symm; clear f1_ f2_ f3_; subst f4_; subst f5_))
      refine hK.out _ _ ⟨(blk_cell BK207.out 0).trans rfl, (blk_cell BK207.out 1).trans rfl, (blk_cell BK185.out 0).trans rfl, (blk_cell BK185.out 1).trans rfl⟩ (fun hHeld => ?_)
      clear hK K
      refine norm_ (a' := ?_) ?_ ?_
      rotate_left
      ·show Act.put _ (some 43) _ = _
       simp only [Act.put, List.setIfInBounds_toArray, List.set_cons_zero, List.set_cons_succ, i64_w, i32_w]
       rfl
      refine one_ (i := 3) (N := some 44) #[true, true, true, true, false] rfl rfl (by kernel_rfl) (by decide) (fun K hK => ?_)
      refine goes_ Try.func14 (by kernel_rfl) rfl #[.agg #[.slice Ao28 t201.length co28, .slice Ao32 t204.length co32], .agg #[.slice Ao67 t217.length co67, .slice Ao68 t220.length co68]] (by rfl) rfl rfl (by (try simp only [List.map_toArray, List.map_cons, List.map_nil]); first | done | rfl | (simp only [List.length_drop, List.length_take]; rfl)) ?_
      with_reducible refine (laws_eqFlight.calls kj10 _ _ t201 _ _ t204 _ _ t217 _ _ t220 true _ ?side1 ?side2 ?side3 ?side4 ?side5 ?side6 ?side7 ?side8 A61.out).mono ?_
      (case side1 => exact xd ((Kd.R_reads' HO_208000.out).2.2))
      (case side2 => exact (Kd.R_reads' HO_208000.out).2.1)
      (case side3 => exact xd ((Kd.R_reads' HO_208001.out).2.2))
      (case side4 => exact (Kd.R_reads' HO_208001.out).2.1)
      (case side5 => exact xd ((Kd.R_reads' HO219.out).2.2))
      (case side6 => exact (Kd.R_reads' HO219.out).2.1)
      (case side7 => exact xd ((Kd.R_reads' HO222.out).2.2))
      (case side8 => exact (Kd.R_reads' HO222.out).2.1)
      rintro e w69 ⟨rfl, hb⟩
      refine ⟨_, rfl, ?_⟩
      replace HO_201000 := xq HO_201000 hb
      replace HO_201001 := xq HO_201001 hb
      replace HO_208000 := xq HO_208000 hb
      replace HO_208001 := xq HO_208001 hb
      replace HO_216000 := xq HO_216000 hb
      replace HO_216001 := xq HO_216001 hb
      replace HO219 := xq HO219 hb
      replace HO222 := xq HO222 hb
      replace BK185 := xk BK185 hb
      replace BK200 := xk BK200 hb
      replace BK207 := xk BK207 hb
      replace BK215 := xk BK215 hb
      replace HB := xp HB hb
      (try clear hb)
      (try clear hb2)
      (try clear hk)
      (try clear hi)
      refine hK.out _ _ ⟨(blk_cell BK207.out 0).trans rfl, (blk_cell BK207.out 1).trans rfl, (blk_cell BK185.out 0).trans rfl, (blk_cell BK185.out 1).trans rfl⟩ (fun hHeld => ?_)
      clear hK K
      refine norm_ (a' := ?_) ?_ ?_
      rotate_left
      ·show Act.put _ (some 44) _ = _
       simp only [Act.put, List.setIfInBounds_toArray, List.set_cons_zero, List.set_cons_succ, i64_w, i32_w]
       rfl
      refine pure_ (i := 4) (N := some 45) (v := ?_) (a' := ?_) #[true, true, true, true, true] rfl rfl (by kernel_rfl) (fun _ _ _ h => h) (Or.inl ⟨by rfl, ?_⟩) ?_ ?_
      rotate_left
      ·intro w'
       go_simp
       with_reducible rfl
      rotate_left
      ·simp only [Act.put, List.setIfInBounds_toArray, List.set_cons_zero, List.set_cons_succ, i64_w, i32_w]
       rfl
      refine done_ (by kernel_rfl) ?_
      have hnb70 := NB207_185.out
      have hnc70 := NB185_207.out
      have hnb71 := NB207_200.out
      have hnc71 := NB200_207.out
      have hnb72 := NB207_215.out
      have hnc72 := NB215_207.out
      have hcz73_0 : w69.cell? ⟨gb207, 0, none⟩ = some (.slice Ao28 t201.length co28) := (blk_cell BK207.out 0).trans rfl
      have hcz73_1 : w69.cell? ⟨gb207, 1, none⟩ = some (.slice Ao32 t204.length co32) := (blk_cell BK207.out 1).trans rfl
      have hfz73_0 := blk_frozen BK207.out 0
      have hfz73_1 := blk_frozen BK207.out 1
      go_upto_region 14 with (first | ((with_reducible refine gate_callee (f := 19) rfl ?_); refine goesL_ (some 48) rfl rfl Try.func19 (by kernel_rfl) rfl #[.agg #[.slice Ao28 t201.length co28, .slice Ao32 t204.length co32], .int .i64 1] rfl (by (try simp only [List.map_toArray, List.map_cons, List.map_nil]); first | done | rfl | (simp only [List.length_drop, List.length_take]; rfl)) ?_; (with_reducible refine (laws_markFlight.calls kj10 (fun k_ => some k_ = (.slice Ao28 t201.length co28 : Value).ownBlock) (.slice Ao28 t201.length co28) t201 (fun k_ => some k_ = (.slice Ao32 t204.length co32 : Value).ownBlock) (.slice Ao32 t204.length co32) t204 1 t224 t225 t226 w _ ?side1 ?side2 ?side3 A63.out).mono ?_); (case side1 => repeat (first | (with_reducible first | exact HB.out | apply below_alloc | apply pw_below_drewN | apply below_drew1 | refine below_set ?_ GE185.out | refine below_set ?_ GE200.out | refine below_set ?_ GE207.out | refine below_set ?_ GE215.out) | exact HB.out)); (case side2 => exact Kd.R_tight rfl HO_208000.out); (case side3 => exact Kd.R_tight rfl HO_208001.out); rintro e w74 ⟨rfl, hy0, hy1, hb, hkp⟩; refine ⟨_, rfl, ?_⟩; replace HO_201000 := Aside0.mk (Kd.R_mono (ok' := fun k_ => nS k_ Ao28 t201.length co28 ∧ nS k_ Ao35 t208.length co35 ∧ nS k_ Ao67 t217.length co67) (Kd.R_keptB ((Kd.R_apart' HO_201000.out (Kd.R_typed HO_208001.out) (by decide))) hkp (fun k_ hk_ hs_ => Or.elim hs_ (fun e_ => (hk_.1.1.1) e_) (fun e_ => (hk_.2) e_))) (fun k_ hk_ => ⟨hk_.1.1.1.1, hk_.1.1.1.2, hk_.1.1.2⟩)); replace HO_201001 := Aside0.mk (Kd.R_mono (ok' := fun k_ => nS k_ Ao32 t204.length co32 ∧ nS k_ Ao40 t211.length co40 ∧ nS k_ Ao68 t220.length co68) (Kd.R_keptB ((Kd.R_apart' HO_201001.out (Kd.R_typed HO_208000.out) (by decide))) hkp (fun k_ hk_ hs_ => Or.elim hs_ (fun e_ => (hk_.2) e_) (fun e_ => (hk_.1.1.1) e_))) (fun k_ hk_ => ⟨hk_.1.1.1.1, hk_.1.1.1.2, hk_.1.1.2⟩)); replace HO_216000 := Aside0.mk (Kd.R_mono (ok' := fun k_ => nS k_ Ao21 t193.length co21 ∧ nS k_ Ao28 t201.length co28 ∧ nS k_ Ao67 t217.length co67) (Kd.R_keptB ((Kd.R_apart' HO_216000.out (Kd.R_typed HO_208001.out) (by decide))) hkp (fun k_ hk_ hs_ => Or.elim hs_ (fun e_ => (hk_.1.1.2) e_) (fun e_ => (hk_.2) e_))) (fun k_ hk_ => ⟨hk_.1.1.1.1, hk_.1.1.1.2, hk_.1.1.2⟩)); replace HO_216001 := Aside0.mk (Kd.R_mono (ok' := fun k_ => nS k_ Ao24 t196.length co24 ∧ nS k_ Ao32 t204.length co32 ∧ nS k_ Ao68 t220.length co68) (Kd.R_keptB ((Kd.R_apart' HO_216001.out (Kd.R_typed HO_208000.out) (by decide))) hkp (fun k_ hk_ hs_ => Or.elim hs_ (fun e_ => (hk_.2) e_) (fun e_ => (hk_.1.1.2) e_))) (fun k_ hk_ => ⟨hk_.1.1.1.1, hk_.1.1.1.2, hk_.1.1.2⟩)); replace BK185 := Aside0.mk (blk_kept (xb BK185.out) hkp (fun hs_ => Or.elim hs_ (fun e_ => (fun e_ => (Kd.R_ne HO_208000.out BK185.out (by decide)) e_) e_) (fun e_ => (fun e_ => (Kd.R_ne HO_208001.out BK185.out (by decide)) e_) e_))); replace BK200 := Aside0.mk (blk_kept (xb BK200.out) hkp (fun hs_ => Or.elim hs_ (fun e_ => (fun e_ => (Kd.R_ne HO_208000.out BK200.out (by decide)) e_) e_) (fun e_ => (fun e_ => (Kd.R_ne HO_208001.out BK200.out (by decide)) e_) e_))); replace BK207 := Aside0.mk (blk_kept (xb BK207.out) hkp (fun hs_ => Or.elim hs_ (fun e_ => (fun e_ => (Kd.R_ne HO_208000.out BK207.out (by decide)) e_) e_) (fun e_ => (fun e_ => (Kd.R_ne HO_208001.out BK207.out (by decide)) e_) e_))); replace BK215 := Aside0.mk (blk_kept (xb BK215.out) hkp (fun hs_ => Or.elim hs_ (fun e_ => (fun e_ => (Kd.R_ne HO_208000.out BK215.out (by decide)) e_) e_) (fun e_ => (fun e_ => (Kd.R_ne HO_208001.out BK215.out (by decide)) e_) e_))); replace HO219 := Aside0.mk (Kd.R_mono (ok' := fun k_ => nS k_ Ao21 t193.length co21 ∧ nS k_ Ao28 t201.length co28 ∧ nS k_ Ao35 t208.length co35) (Kd.R_keptB ((Kd.R_apart' HO219.out (Kd.R_typed HO_208001.out) (by decide))) hkp (fun k_ hk_ hs_ => Or.elim hs_ (fun e_ => (hk_.1.1.2) e_) (fun e_ => (hk_.2) e_))) (fun k_ hk_ => ⟨hk_.1.1.1.1.2, hk_.1.1.1.2, hk_.1.1.2⟩)); replace HO_208001 := Aside0.mk (Kd.R_reok rfl hy1 (fun k_ e_ => HO_208001.out.1 k_ e_)); replace HO222 := Aside0.mk (Kd.R_mono (ok' := fun k_ => nS k_ Ao24 t196.length co24 ∧ nS k_ Ao32 t204.length co32 ∧ nS k_ Ao40 t211.length co40) (Kd.R_keptB ((Kd.R_apart' HO222.out (Kd.R_typed HO_208000.out) (by decide))) hkp (fun k_ hk_ hs_ => Or.elim hs_ (fun e_ => (hk_.2) e_) (fun e_ => (hk_.1.1.2) e_))) (fun k_ hk_ => ⟨hk_.1.1.1.1.2, hk_.1.1.1.2, hk_.1.1.2⟩)); replace HO_208000 := Aside0.mk (Kd.R_reok rfl hy0 (fun k_ e_ => HO_208000.out.1 k_ e_)); replace HB := Aside0.mk (hb); (try clear hb); (try clear hkp); (try clear hy0); (try clear hy1)))
      (try simp only [Act.put, List.setIfInBounds_toArray, List.set_cons_zero, List.set_cons_succ])
      go_cut [61] (fun v61 wc => ∃ (kq : Nat) (x61_63 : Bool), v61 = .bool x61_63 ∧ Aside0 (laws_FnExactReverseFlight.j1 kq t199 x61_63 l0_0 l0_1 t193 t196 t208 t211 = some true) ∧ Aside0 (kq ≤ kj10) ∧ Aside0 (Kd.R (Kd.int .i64) 3 wc w.heap.size (fun k_ => nS k_ Ao28 t201.length co28 ∧ nS k_ Ao35 t208.length co35) (.slice Ao21 t193.length co21) t193) ∧ Aside0 (Kd.R Kd.bool 4 wc w.heap.size (fun k_ => nS k_ Ao32 t204.length co32 ∧ nS k_ Ao40 t211.length co40) (.slice Ao24 t196.length co24) t196) ∧ Aside0 (Kd.R (Kd.int .i64) 3 wc w.heap.size (fun k_ => nS k_ Ao21 t193.length co21 ∧ nS k_ Ao35 t208.length co35) (.slice Ao28 t201.length co28) t225) ∧ Aside0 (Kd.R Kd.bool 4 wc w.heap.size (fun k_ => nS k_ Ao24 t196.length co24 ∧ nS k_ Ao40 t211.length co40) (.slice Ao32 t204.length co32) t226) ∧ Aside0 (Kd.R (Kd.int .i64) 3 wc w.heap.size (fun k_ => nS k_ Ao21 t193.length co21 ∧ nS k_ Ao28 t201.length co28) (.slice Ao35 t208.length co35) t208) ∧ Aside0 (Kd.R Kd.bool 4 wc w.heap.size (fun k_ => nS k_ Ao24 t196.length co24 ∧ nS k_ Ao32 t204.length co32) (.slice Ao40 t211.length co40) t211) ∧ Aside0 (wc.heap[gb185]? = some (.cells #[(.slice A0_0 l0_0.length c0_0), (.slice A0_1 l0_1.length c0_1)] 25 (0, 0))) ∧ Aside0 (wc.heap[gb200]? = some (.cells #[(.slice Ao21 t193.length co21), (.slice Ao24 t196.length co24)] 29 (0, 0))) ∧ Aside0 (wc.heap[gb207]? = some (.cells #[(.slice Ao28 t201.length co28), (.slice Ao32 t204.length co32)] 29 (0, 0))) ∧ Aside0 (wc.heap[gb215]? = some (.cells #[(.slice Ao35 t208.length co35), (.slice Ao40 t211.length co40)] 29 (0, 0))) ∧ Aside0 (Below w.heap.size w wc))
      case first =>
       have H := HC64.out
       clear HC64
       by_cases c75 : t224 < 0
       ·rw [if_pos c75] at H
        have c75b0 : decide (t224 < 0) = true := decide_eq_true c75
        clear c75
        (first | rw [c75b0] | (simp only [i64_w, i32_w]; rw [c75b0]) | skip)
        have H' := Aside0.mk H
        clear H
        go_wp2
        go_meet
        case rel => exact ⟨_, (true), (by first | rfl | (simp; done) | (simp [*]; done)), H', ⟨by have := HJ10.out; first | omega | exact Nat.le_refl _⟩, ⟨xm HO_201000 (fun _ hk => ⟨hk.1, hk.2.1⟩)⟩, ⟨xm HO_201001 (fun _ hk => ⟨hk.1, hk.2.1⟩)⟩, ⟨xm HO_208000 (fun _ hk => ⟨hk.1.1, hk.1.2⟩)⟩, ⟨xm HO_208001 (fun _ hk => ⟨hk.1.1, hk.1.2⟩)⟩, ⟨xm HO_216000 (fun _ hk => ⟨hk.1, hk.2.1⟩)⟩, ⟨xm HO_216001 (fun _ hk => ⟨hk.1, hk.2.1⟩)⟩, ⟨xb BK185.out⟩, ⟨xb BK200.out⟩, ⟨xb BK207.out⟩, ⟨xb BK215.out⟩, ⟨xs HB.out⟩⟩
       ·rw [if_neg c75] at H
        have c75b0 : decide (t224 < 0) = false := decide_eq_false c75
        clear c75
        (first | rw [c75b0] | (simp only [i64_w, i32_w]; rw [c75b0]) | skip)
        replace H := Option.bind_eq_some_iff.mp H
        obtain ⟨t227, A760, H⟩ := H
        replace H : (if t227 = true then (laws_FnExactReverseFlight.j1 kj10 t199 (t214 != t199) l0_0 l0_1 t193 t196 t208 t211) else (laws_FnExactReverseFlight.j1 kj10 t199 true l0_0 l0_1 t193 t196 t208 t211)) = some true := H
        have A76 := Aside0.mk A760
        clear A760
        by_cases c77 : t227 = true
        ·subst c77
         have H1 : (laws_FnExactReverseFlight.j1 kj10 t199 (t214 != t199) l0_0 l0_1 t193 t196 t208 t211) = some true := by first | (rw [if_pos rfl] at H; exact H) | rfl
         clear H
         have H := H1
         clear H1
         have H' := Aside0.mk H
         clear H
         have hnb78 := NB215_185.out
         have hnc78 := NB185_215.out
         have hnb79 := NB215_200.out
         have hnc79 := NB200_215.out
         have hnb80 := NB215_207.out
         have hnc80 := NB207_215.out
         have hcz81_0 : w74.cell? ⟨gb215, 0, none⟩ = some (.slice Ao35 t208.length co35) := (blk_cell BK215.out 0).trans rfl
         have hcz81_1 : w74.cell? ⟨gb215, 1, none⟩ = some (.slice Ao40 t211.length co40) := (blk_cell BK215.out 1).trans rfl
         have hfz81_0 := blk_frozen BK215.out 0
         have hfz81_1 := blk_frozen BK215.out 1
         have hnb82 := NB200_185.out
         have hnc82 := NB185_200.out
         have hnb83 := NB200_207.out
         have hnc83 := NB207_200.out
         have hcz84_0 : w74.cell? ⟨gb200, 0, none⟩ = some (.slice Ao21 t193.length co21) := (blk_cell BK200.out 0).trans rfl
         have hcz84_1 : w74.cell? ⟨gb200, 1, none⟩ = some (.slice Ao24 t196.length co24) := (blk_cell BK200.out 1).trans rfl
         have hfz84_0 := blk_frozen BK200.out 0
         have hfz84_1 := blk_frozen BK200.out 1
         go_wp2_with (first | (go_at_call 14; (with_reducible refine (laws_eqFlight.calls kj10 _ _ t208 _ _ t211 _ _ t193 _ _ t196 true _ ?side1 ?side2 ?side3 ?side4 ?side5 ?side6 ?side7 ?side8 A76.out).mono ?_); (case side1 => exact xd ((Kd.R_reads' HO_216000.out).2.2)); (case side2 => exact (Kd.R_reads' HO_216000.out).2.1); (case side3 => exact xd ((Kd.R_reads' HO_216001.out).2.2)); (case side4 => exact (Kd.R_reads' HO_216001.out).2.1); (case side5 => exact xd ((Kd.R_reads' HO_201000.out).2.2)); (case side6 => exact (Kd.R_reads' HO_201000.out).2.1); (case side7 => exact xd ((Kd.R_reads' HO_201001.out).2.2)); (case side8 => exact (Kd.R_reads' HO_201001.out).2.1); rintro e w85 ⟨rfl, hb⟩; replace HO_201000 := xq HO_201000 hb; replace HO_201001 := xq HO_201001 hb; replace HO_208000 := xq HO_208000 hb; replace HO_208001 := xq HO_208001 hb; replace HO_216000 := xq HO_216000 hb; replace HO_216001 := xq HO_216001 hb; replace HO219 := xq HO219 hb; replace HO222 := xq HO222 hb; replace BK185 := xk BK185 hb; replace BK200 := xk BK200 hb; replace BK207 := xk BK207 hb; replace BK215 := xk BK215 hb; replace HB := xp HB hb; (try clear hb); (try clear hb2); (try clear hk); (try clear hi)))
         go_meet
         case rel => exact ⟨_, ((t214 != t199)), (by first | rfl | (simp; done) | (simp [*]; done)), H', ⟨by have := HJ10.out; first | omega | exact Nat.le_refl _⟩, ⟨xm HO_201000 (fun _ hk => ⟨hk.1, hk.2.1⟩)⟩, ⟨xm HO_201001 (fun _ hk => ⟨hk.1, hk.2.1⟩)⟩, ⟨xm HO_208000 (fun _ hk => ⟨hk.1.1, hk.1.2⟩)⟩, ⟨xm HO_208001 (fun _ hk => ⟨hk.1.1, hk.1.2⟩)⟩, ⟨xm HO_216000 (fun _ hk => ⟨hk.1, hk.2.1⟩)⟩, ⟨xm HO_216001 (fun _ hk => ⟨hk.1, hk.2.1⟩)⟩, ⟨xb BK185.out⟩, ⟨xb BK200.out⟩, ⟨xb BK207.out⟩, ⟨xb BK215.out⟩, ⟨xs HB.out⟩⟩
        ·replace c77 := Bool.eq_false_iff.mpr c77
         subst c77
         have H1 : (laws_FnExactReverseFlight.j1 kj10 t199 true l0_0 l0_1 t193 t196 t208 t211) = some true := by first | (rw [if_neg (show ¬ (false = true) by decide)] at H; exact H) | rfl
         clear H
         have H := H1
         clear H1
         have H' := Aside0.mk H
         clear H
         have hnb86 := NB215_185.out
         have hnc86 := NB185_215.out
         have hnb87 := NB215_200.out
         have hnc87 := NB200_215.out
         have hnb88 := NB215_207.out
         have hnc88 := NB207_215.out
         have hcz89_0 : w74.cell? ⟨gb215, 0, none⟩ = some (.slice Ao35 t208.length co35) := (blk_cell BK215.out 0).trans rfl
         have hcz89_1 : w74.cell? ⟨gb215, 1, none⟩ = some (.slice Ao40 t211.length co40) := (blk_cell BK215.out 1).trans rfl
         have hfz89_0 := blk_frozen BK215.out 0
         have hfz89_1 := blk_frozen BK215.out 1
         have hnb90 := NB200_185.out
         have hnc90 := NB185_200.out
         have hnb91 := NB200_207.out
         have hnc91 := NB207_200.out
         have hcz92_0 : w74.cell? ⟨gb200, 0, none⟩ = some (.slice Ao21 t193.length co21) := (blk_cell BK200.out 0).trans rfl
         have hcz92_1 : w74.cell? ⟨gb200, 1, none⟩ = some (.slice Ao24 t196.length co24) := (blk_cell BK200.out 1).trans rfl
         have hfz92_0 := blk_frozen BK200.out 0
         have hfz92_1 := blk_frozen BK200.out 1
         go_wp2_with (first | (go_at_call 14; (with_reducible refine (laws_eqFlight.calls kj10 _ _ t208 _ _ t211 _ _ t193 _ _ t196 false _ ?side1 ?side2 ?side3 ?side4 ?side5 ?side6 ?side7 ?side8 A76.out).mono ?_); (case side1 => exact xd ((Kd.R_reads' HO_216000.out).2.2)); (case side2 => exact (Kd.R_reads' HO_216000.out).2.1); (case side3 => exact xd ((Kd.R_reads' HO_216001.out).2.2)); (case side4 => exact (Kd.R_reads' HO_216001.out).2.1); (case side5 => exact xd ((Kd.R_reads' HO_201000.out).2.2)); (case side6 => exact (Kd.R_reads' HO_201000.out).2.1); (case side7 => exact xd ((Kd.R_reads' HO_201001.out).2.2)); (case side8 => exact (Kd.R_reads' HO_201001.out).2.1); rintro e w93 ⟨rfl, hb⟩; replace HO_201000 := xq HO_201000 hb; replace HO_201001 := xq HO_201001 hb; replace HO_208000 := xq HO_208000 hb; replace HO_208001 := xq HO_208001 hb; replace HO_216000 := xq HO_216000 hb; replace HO_216001 := xq HO_216001 hb; replace HO219 := xq HO219 hb; replace HO222 := xq HO222 hb; replace BK185 := xk BK185 hb; replace BK200 := xk BK200 hb; replace BK207 := xk BK207 hb; replace BK215 := xk BK215 hb; replace HB := xp HB hb; (try clear hb); (try clear hb2); (try clear hk); (try clear hi)))
         go_meet
         case rel => exact ⟨_, (true), (by first | rfl | (simp; done) | (simp [*]; done)), H', ⟨by have := HJ10.out; first | omega | exact Nat.le_refl _⟩, ⟨xm HO_201000 (fun _ hk => ⟨hk.1, hk.2.1⟩)⟩, ⟨xm HO_201001 (fun _ hk => ⟨hk.1, hk.2.1⟩)⟩, ⟨xm HO_208000 (fun _ hk => ⟨hk.1.1, hk.1.2⟩)⟩, ⟨xm HO_208001 (fun _ hk => ⟨hk.1.1, hk.1.2⟩)⟩, ⟨xm HO_216000 (fun _ hk => ⟨hk.1, hk.2.1⟩)⟩, ⟨xm HO_216001 (fun _ hk => ⟨hk.1, hk.2.1⟩)⟩, ⟨xb BK185.out⟩, ⟨xb BK200.out⟩, ⟨xb BK207.out⟩, ⟨xb BK215.out⟩, ⟨xs HB.out⟩⟩
      case rest =>
       clear HC64
       try clear c1
       try clear c2
       try clear p2
       try clear c3
       try clear c3b0
       try clear c4
       try clear c5
       try clear c6
       try clear c7
       try clear c8
       try clear c9
       try clear c10
       try clear c12
       try clear c14
       try clear c17
       try clear c18
       try clear c19
       try clear c22
       try clear c29
       try clear c30
       try clear c36
       try clear c37
       try clear c38
       try clear c42
       try clear c43
       try clear c44
       try clear c45
       try clear c47
       try clear c48
       try clear c51
       try clear c52
       try clear c53
       try clear c55
       try clear c56
       try clear c59
       try clear c62
       try clear c70
       try clear c71
       try clear c72
       try clear c75
       try clear c75b0
       try clear c77
       try clear c78
       try clear c79
       try clear c80
       try clear c82
       try clear c83
       try clear c86
       try clear c87
       try clear c88
       try clear c90
       try clear c91
       try clear hcz13_0
       try clear hcz13_1
       try clear hcz15_0
       try clear hcz15_1
       try clear hcz23_0
       try clear hcz23_1
       try clear hcz25_0
       try clear hcz25_1
       try clear hcz31_0
       try clear hcz31_1
       try clear hcz39_0
       try clear hcz39_1
       try clear hcz46_0
       try clear hcz46_1
       try clear hcz49_0
       try clear hcz49_1
       try clear hcz54_0
       try clear hcz54_1
       try clear hcz57_0
       try clear hcz57_1
       try clear hcz5_0
       try clear hcz5_1
       try clear hcz73_0
       try clear hcz73_1
       try clear hcz81_0
       try clear hcz81_1
       try clear hcz84_0
       try clear hcz84_1
       try clear hcz89_0
       try clear hcz89_1
       try clear hcz92_0
       try clear hcz92_1
       try clear hfz13_0
       try clear hfz13_1
       try clear hfz15_0
       try clear hfz15_1
       try clear hfz23_0
       try clear hfz23_1
       try clear hfz25_0
       try clear hfz25_1
       try clear hfz31_0
       try clear hfz31_1
       try clear hfz39_0
       try clear hfz39_1
       try clear hfz46_0
       try clear hfz46_1
       try clear hfz49_0
       try clear hfz49_1
       try clear hfz54_0
       try clear hfz54_1
       try clear hfz57_0
       try clear hfz57_1
       try clear hfz5_0
       try clear hfz5_1
       try clear hfz73_0
       try clear hfz73_1
       try clear hfz81_0
       try clear hfz81_1
       try clear hfz84_0
       try clear hfz84_1
       try clear hfz89_0
       try clear hfz89_1
       try clear hfz92_0
       try clear hfz92_1
       try clear p2
       obtain ⟨kq, x61_63, rfl, HA, HJ63, HO_201000, HO_201001, HO_208000, HO_208001, HO_216000, HO_216001, BK185, BK200, BK207, BK215, HB⟩ := hcut
       have hl208000_63 := (Kd.R_reads' HO_208000.out).1
       rw [hl208000_63] at HO_208000
       (try simp only [hl208000_63])
       (try simp only [hl208000_63] at BK185)
       (try simp only [hl208000_63] at BK200)
       (try simp only [hl208000_63] at BK207)
       (try simp only [hl208000_63] at BK215)
       (try simp only [hl208000_63] at HO_201000)
       (try simp only [hl208000_63] at HO_201001)
       (try simp only [hl208000_63] at HO_208001)
       (try simp only [hl208000_63] at HO_216000)
       (try simp only [hl208000_63] at HO_216001)
       have hl208001_63 := (Kd.R_reads' HO_208001.out).1
       rw [hl208001_63] at HO_208001
       (try simp only [hl208001_63])
       (try simp only [hl208001_63] at BK185)
       (try simp only [hl208001_63] at BK200)
       (try simp only [hl208001_63] at BK207)
       (try simp only [hl208001_63] at BK215)
       (try simp only [hl208001_63] at HO_201000)
       (try simp only [hl208001_63] at HO_201001)
       (try simp only [hl208001_63] at HO_208000)
       (try simp only [hl208001_63] at HO_216000)
       (try simp only [hl208001_63] at HO_216001)
       cases kq with
       | zero => exact absurd HA.out (by simp [laws_FnExactReverseFlight.j1])
       | succ kj63 =>
        have H := HA.out
        clear HA
        simp only [laws_FnExactReverseFlight.j1] at H
        by_cases c94 : x61_63 = true
        ·subst c94
         have H1 : (some false) = some true := by first | (rw [if_pos rfl] at H; exact H) | rfl
         clear H
         have H := H1
         clear H1
         exact absurd H (by simp)
        ·replace c94 := Bool.eq_false_iff.mpr c94
         subst c94
         have H1 : ((laws_markFlight.f kj63 t208 t211 1).bind fun bt228 => ((laws_heldFlight.f kj63 bt228.2.1 bt228.2.2 1).bind fun t231 => (if t231 < 0 then (some false) else (if t231 = bt228.1 then ((laws_toFlight.f kj63 l0_0 l0_1).bind fun bt232 => ((impl_ReverseFlight.f kj63 bt232.1 bt232.2).bind fun bt238 => ((laws_eqFlight.f kj63 bt238.1 bt238.2.1 t193 t196).bind fun t246 => (if t246 = true then (laws_FnExactReverseFlight.j2 kj63 bt228.1 (bt238.2.2 != t199) bt228.2.1 bt228.2.2) else (laws_FnExactReverseFlight.j2 kj63 bt228.1 true bt228.2.1 bt228.2.2))))) else (some false))))) = some true := by first | (rw [if_neg (show ¬ (false = true) by decide)] at H; exact H) | rfl
         clear H
         have H := H1
         clear H1
         replace H := Option.bind_eq_some_iff.mp H
         obtain ⟨⟨t228, t229, t230⟩, A950, H⟩ := H
         replace H : ((laws_heldFlight.f kj63 t229 t230 1).bind fun t231 => (if t231 < 0 then (some false) else (if t231 = t228 then ((laws_toFlight.f kj63 l0_0 l0_1).bind fun bt232 => ((impl_ReverseFlight.f kj63 bt232.1 bt232.2).bind fun bt238 => ((laws_eqFlight.f kj63 bt238.1 bt238.2.1 t193 t196).bind fun t246 => (if t246 = true then (laws_FnExactReverseFlight.j2 kj63 t228 (bt238.2.2 != t199) t229 t230) else (laws_FnExactReverseFlight.j2 kj63 t228 true t229 t230))))) else (some false)))) = some true := H
         have A95 := Aside0.mk A950
         clear A950
         replace H := Option.bind_eq_some_iff.mp H
         obtain ⟨t231, A960, H⟩ := H
         replace H : (if t231 < 0 then (some false) else (if t231 = t228 then ((laws_toFlight.f kj63 l0_0 l0_1).bind fun bt232 => ((impl_ReverseFlight.f kj63 bt232.1 bt232.2).bind fun bt238 => ((laws_eqFlight.f kj63 bt238.1 bt238.2.1 t193 t196).bind fun t246 => (if t246 = true then (laws_FnExactReverseFlight.j2 kj63 t228 (bt238.2.2 != t199) t229 t230) else (laws_FnExactReverseFlight.j2 kj63 t228 true t229 t230))))) else (some false))) = some true := H
         have A96 := Aside0.mk A960
         clear A960
         by_cases c97 : t231 < 0
         ·rw [if_pos c97] at H
          have c97b0 : decide (t231 < 0) = true := decide_eq_true c97
          clear c97
          exact absurd H (by simp)
         ·rw [if_neg c97] at H
          have c97b0 : decide (t231 < 0) = false := decide_eq_false c97
          clear c97
          by_cases c98 : t231 = t228
          ·rw [if_pos c98] at H
           have c98b0 : (t231 == t228) = true := beq_iff_eq.mpr c98
           have c98b1 : (t231 != t228) = false := bne_eq_false_iff_eq.mpr c98
           clear c98
           replace H := Option.bind_eq_some_iff.mp H
           obtain ⟨⟨t232, t235⟩, A990, H⟩ := H
           replace H : ((impl_ReverseFlight.f kj63 t232 t235).bind fun bt238 => ((laws_eqFlight.f kj63 bt238.1 bt238.2.1 t193 t196).bind fun t246 => (if t246 = true then (laws_FnExactReverseFlight.j2 kj63 t228 (bt238.2.2 != t199) t229 t230) else (laws_FnExactReverseFlight.j2 kj63 t228 true t229 t230)))) = some true := H
           have A99 := Aside0.mk A990
           clear A990
           replace H := Option.bind_eq_some_iff.mp H
           obtain ⟨⟨t238, t241, t244⟩, A1000, H⟩ := H
           replace H : ((laws_eqFlight.f kj63 t238 t241 t193 t196).bind fun t246 => (if t246 = true then (laws_FnExactReverseFlight.j2 kj63 t228 (t244 != t199) t229 t230) else (laws_FnExactReverseFlight.j2 kj63 t228 true t229 t230))) = some true := H
           have A100 := Aside0.mk A1000
           clear A1000
           have HC101 := Aside0.mk H
           clear H
           have hnb102 := NB215_185.out
           have hnc102 := NB185_215.out
           have hnb103 := NB215_200.out
           have hnc103 := NB200_215.out
           have hnb104 := NB215_207.out
           have hnc104 := NB207_215.out
           have hcz105_0 : wc.cell? ⟨gb215, 0, none⟩ = some (.slice Ao35 t208.length co35) := (blk_cell BK215.out 0).trans rfl
           have hcz105_1 : wc.cell? ⟨gb215, 1, none⟩ = some (.slice Ao40 t211.length co40) := (blk_cell BK215.out 1).trans rfl
           have hfz105_0 := blk_frozen BK215.out 0
           have hfz105_1 := blk_frozen BK215.out 1
           go_upto_region 25 with (first | ((with_reducible refine gate_callee (f := 19) rfl ?_); refine goesL_ (some 64) rfl rfl Try.func19 (by kernel_rfl) rfl #[.agg #[.slice Ao35 t208.length co35, .slice Ao40 t211.length co40], .int .i64 1] rfl (by (try simp only [List.map_toArray, List.map_cons, List.map_nil]); first | done | rfl | (simp only [List.length_drop, List.length_take]; rfl)) ?_; (with_reducible refine (laws_markFlight.calls kj63 (fun k_ => some k_ = (.slice Ao35 t208.length co35 : Value).ownBlock) (.slice Ao35 t208.length co35) t208 (fun k_ => some k_ = (.slice Ao40 t211.length co40 : Value).ownBlock) (.slice Ao40 t211.length co40) t211 1 t228 t229 t230 w _ ?side1 ?side2 ?side3 A95.out).mono ?_); (case side1 => repeat (first | (with_reducible first | exact HB.out | apply below_alloc | apply pw_below_drewN | apply below_drew1 | refine below_set ?_ GE185.out | refine below_set ?_ GE200.out | refine below_set ?_ GE207.out | refine below_set ?_ GE215.out) | exact HB.out)); (case side2 => exact Kd.R_tight rfl HO_216000.out); (case side3 => exact Kd.R_tight rfl HO_216001.out); rintro e w106 ⟨rfl, hy0, hy1, hb, hkp⟩; refine ⟨_, rfl, ?_⟩; replace HO_201000 := Aside0.mk (Kd.R_mono (ok' := fun k_ => nS k_ Ao28 t225.length co28 ∧ nS k_ Ao35 t208.length co35) (Kd.R_keptB ((Kd.R_apart' HO_201000.out (Kd.R_typed HO_216001.out) (by decide))) hkp (fun k_ hk_ hs_ => Or.elim hs_ (fun e_ => (hk_.1.2) e_) (fun e_ => (hk_.2) e_))) (fun k_ hk_ => ⟨hk_.1.1.1, hk_.1.1.2⟩)); replace HO_201001 := Aside0.mk (Kd.R_mono (ok' := fun k_ => nS k_ Ao32 t226.length co32 ∧ nS k_ Ao40 t211.length co40) (Kd.R_keptB ((Kd.R_apart' HO_201001.out (Kd.R_typed HO_216000.out) (by decide))) hkp (fun k_ hk_ hs_ => Or.elim hs_ (fun e_ => (hk_.2) e_) (fun e_ => (hk_.1.2) e_))) (fun k_ hk_ => ⟨hk_.1.1.1, hk_.1.1.2⟩)); replace HO_208000 := Aside0.mk (Kd.R_mono (ok' := fun k_ => nS k_ Ao21 t193.length co21 ∧ nS k_ Ao35 t208.length co35) (Kd.R_keptB ((Kd.R_apart' HO_208000.out (Kd.R_typed HO_216001.out) (by decide))) hkp (fun k_ hk_ hs_ => Or.elim hs_ (fun e_ => (hk_.1.2) e_) (fun e_ => (hk_.2) e_))) (fun k_ hk_ => ⟨hk_.1.1.1, hk_.1.1.2⟩)); replace HO_208001 := Aside0.mk (Kd.R_mono (ok' := fun k_ => nS k_ Ao24 t196.length co24 ∧ nS k_ Ao40 t211.length co40) (Kd.R_keptB ((Kd.R_apart' HO_208001.out (Kd.R_typed HO_216000.out) (by decide))) hkp (fun k_ hk_ hs_ => Or.elim hs_ (fun e_ => (hk_.2) e_) (fun e_ => (hk_.1.2) e_))) (fun k_ hk_ => ⟨hk_.1.1.1, hk_.1.1.2⟩)); replace BK185 := Aside0.mk (blk_kept (xb BK185.out) hkp (fun hs_ => Or.elim hs_ (fun e_ => (fun e_ => (Kd.R_ne HO_216000.out BK185.out (by decide)) e_) e_) (fun e_ => (fun e_ => (Kd.R_ne HO_216001.out BK185.out (by decide)) e_) e_))); replace BK200 := Aside0.mk (blk_kept (xb BK200.out) hkp (fun hs_ => Or.elim hs_ (fun e_ => (fun e_ => (Kd.R_ne HO_216000.out BK200.out (by decide)) e_) e_) (fun e_ => (fun e_ => (Kd.R_ne HO_216001.out BK200.out (by decide)) e_) e_))); replace BK207 := Aside0.mk (blk_kept (xb BK207.out) hkp (fun hs_ => Or.elim hs_ (fun e_ => (fun e_ => (Kd.R_ne HO_216000.out BK207.out (by decide)) e_) e_) (fun e_ => (fun e_ => (Kd.R_ne HO_216001.out BK207.out (by decide)) e_) e_))); replace BK215 := Aside0.mk (blk_kept (xb BK215.out) hkp (fun hs_ => Or.elim hs_ (fun e_ => (fun e_ => (Kd.R_ne HO_216000.out BK215.out (by decide)) e_) e_) (fun e_ => (fun e_ => (Kd.R_ne HO_216001.out BK215.out (by decide)) e_) e_))); replace HO_216000 := Aside0.mk (Kd.R_reok rfl hy0 (fun k_ e_ => HO_216000.out.1 k_ e_)); replace HO_216001 := Aside0.mk (Kd.R_reok rfl hy1 (fun k_ e_ => HO_216001.out.1 k_ e_)); replace HB := Aside0.mk (hb); (try clear hb); (try clear hkp); (try clear hy0); (try clear hy1); have hcz107_0 : w106.cell? ⟨gb215, 0, none⟩ = some (.slice Ao35 t208.length co35) := (blk_cell BK215.out 0).trans rfl; have hcz107_1 : w106.cell? ⟨gb215, 1, none⟩ = some (.slice Ao40 t211.length co40) := (blk_cell BK215.out 1).trans rfl; have hfz107_0 := blk_frozen BK215.out 0; have hfz107_1 := blk_frozen BK215.out 1) | ((with_reducible refine gate_callee (f := 20) rfl ?_); refine goesL_ (some 67) rfl rfl Try.func20 (by kernel_rfl) rfl #[.agg #[.slice Ao35 t229.length co35, .slice Ao40 t230.length co40], .int .i64 1] rfl (by (try simp only [List.map_toArray, List.map_cons, List.map_nil]); first | done | (rw [show t229.length = t208.length from (Kd.R_reads' HO_216000.out).1.symm, show t230.length = t211.length from (Kd.R_reads' HO_216001.out).1.symm] <;> rfl) | rfl | (simp only [List.length_drop, List.length_take]; rfl)) ?_; (with_reducible refine (laws_heldFlight.calls kj63 _ _ t229 _ _ t230 1 t231 _ ?side1 ?side2 ?side3 ?side4 A96.out).mono ?_); (case side1 => exact xd ((Kd.R_reads' HO_216000.out).2.2)); (case side2 => rw [show t229.length = t208.length from (Kd.R_reads' HO_216000.out).1.symm]; exact (Kd.R_reads' HO_216000.out).2.1); (case side3 => exact xd ((Kd.R_reads' HO_216001.out).2.2)); (case side4 => rw [show t230.length = t211.length from (Kd.R_reads' HO_216001.out).1.symm]; exact (Kd.R_reads' HO_216001.out).2.1); rintro e w108 ⟨rfl, hb⟩; refine ⟨_, rfl, ?_⟩; replace HO_201000 := xq HO_201000 hb; replace HO_201001 := xq HO_201001 hb; replace HO_208000 := xq HO_208000 hb; replace HO_208001 := xq HO_208001 hb; replace HO_216000 := xq HO_216000 hb; replace HO_216001 := xq HO_216001 hb; replace BK185 := xk BK185 hb; replace BK200 := xk BK200 hb; replace BK207 := xk BK207 hb; replace BK215 := xk BK215 hb; replace HB := xp HB hb; (try clear hb); (try clear hb2); (try clear hk); (try clear hi); have hnb109 := NB185_200.out; have hnc109 := NB200_185.out; have hnb110 := NB185_207.out; have hnc110 := NB207_185.out; have hcz111_0 : w108.cell? ⟨gb185, 0, none⟩ = some (.slice A0_0 l0_0.length c0_0) := (blk_cell BK185.out 0).trans rfl; have hcz111_1 : w108.cell? ⟨gb185, 1, none⟩ = some (.slice A0_1 l0_1.length c0_1) := (blk_cell BK185.out 1).trans rfl; have hfz111_0 := blk_frozen BK185.out 0; have hfz111_1 := blk_frozen BK185.out 1) | ((with_reducible refine gate_callee (f := 12) rfl ?_); refine goesL_ (some 75) rfl rfl Try.func12 (by kernel_rfl) rfl #[.agg #[.slice A0_0 l0_0.length c0_0, .slice A0_1 l0_1.length c0_1]] rfl (by (try simp only [List.map_toArray, List.map_cons, List.map_nil]); first | done | rfl | (simp only [List.length_drop, List.length_take]; rfl)) ?_; (with_reducible refine (laws_toFlight.calls kj63 _ _ l0_0 _ _ l0_1 t232 t235 _ ?side1 ?side2 ?side3 ?side4 A99.out).mono ?_); (case side1 => exact xd ((Kd.C_below HR0_0.out HB.out))); (case side2 => exact HC0_0.out); (case side3 => exact xd ((Kd.C_below HR0_1.out HB.out))); (case side4 => exact HC0_1.out); rintro e w112 ⟨v233, v236, rfl, ho0, ho1, hb⟩; refine ⟨_, rfl, ?_⟩; have HO234 := Aside0.mk (Kd.R_lower (Kd.R_new' (Kd.R_new' (Kd.R_new' ho0 (Kd.R_lt (xr HO_201000.out))) (Kd.R_lt (xr HO_208000.out))) (Kd.R_lt (xr HO_216000.out))) (below_size (xs HB.out))); replace HO_201000 := Aside0.mk (Kd.R_elder' (xr HO_201000.out) (Kd.R_base ho0) hb); replace HO_208000 := Aside0.mk (Kd.R_elder' (xr HO_208000.out) (Kd.R_base ho0) hb); replace HO_216000 := Aside0.mk (Kd.R_elder' (xr HO_216000.out) (Kd.R_base ho0) hb); have HO237 := Aside0.mk (Kd.R_lower (Kd.R_new' (Kd.R_new' (Kd.R_new' ho1 (Kd.R_lt (xr HO_201001.out))) (Kd.R_lt (xr HO_208001.out))) (Kd.R_lt (xr HO_216001.out))) (below_size (xs HB.out))); replace HO_201001 := Aside0.mk (Kd.R_elder' (xr HO_201001.out) (Kd.R_base ho1) hb); replace HO_208001 := Aside0.mk (Kd.R_elder' (xr HO_208001.out) (Kd.R_base ho1) hb); replace HO_216001 := Aside0.mk (Kd.R_elder' (xr HO_216001.out) (Kd.R_base ho1) hb); replace BK185 := xk BK185 hb; replace BK200 := xk BK200 hb; replace BK207 := xk BK207 hb; replace BK215 := xk BK215 hb; replace HB := xp HB hb; (try clear hb); (try clear hb2); (try clear hk); (try clear hi); (try clear ho0); (try clear ho1); obtain ⟨Ao113, co113, eo113⟩ := Kd.R_slice HO234.out; subst eo113; obtain ⟨Ao114, co114, eo114⟩ := Kd.R_slice HO237.out; subst eo114) | ((with_reducible refine gate_callee (f := 18) rfl ?_); refine goesL_ (some 76) rfl rfl Try.func18 (by kernel_rfl) rfl #[.agg #[.slice Ao113 t232.length co113, .slice Ao114 t235.length co114]] rfl (by (try simp only [List.map_toArray, List.map_cons, List.map_nil]); first | done | rfl | (simp only [List.length_drop, List.length_take]; rfl)) ?_; (with_reducible refine (impl_ReverseFlight.calls kj63 _ _ t232 _ _ t235 t238 t241 t244 _ ?side1 ?side2 ?side3 ?side4 A100.out).mono ?_); (case side1 => exact xd ((Kd.R_reads' HO234.out).2.2)); (case side2 => exact (Kd.R_reads' HO234.out).2.1); (case side3 => exact xd ((Kd.R_reads' HO237.out).2.2)); (case side4 => exact (Kd.R_reads' HO237.out).2.1); rintro e w115 ⟨v239, v242, rfl, ho0, ho1, hb⟩; refine ⟨_, rfl, ?_⟩; have HO240 := Aside0.mk (Kd.R_lower (Kd.R_new' (Kd.R_new' (Kd.R_new' (Kd.R_new' ho0 (Kd.R_lt (xr HO_201000.out))) (Kd.R_lt (xr HO_208000.out))) (Kd.R_lt (xr HO_216000.out))) (Kd.R_lt (xr HO234.out))) (below_size (xs HB.out))); replace HO_201000 := Aside0.mk (Kd.R_elder' (xr HO_201000.out) (Kd.R_base ho0) hb); replace HO_208000 := Aside0.mk (Kd.R_elder' (xr HO_208000.out) (Kd.R_base ho0) hb); replace HO_216000 := Aside0.mk (Kd.R_elder' (xr HO_216000.out) (Kd.R_base ho0) hb); replace HO234 := Aside0.mk (Kd.R_elder' (xr HO234.out) (Kd.R_base ho0) hb); have HO243 := Aside0.mk (Kd.R_lower (Kd.R_new' (Kd.R_new' (Kd.R_new' (Kd.R_new' ho1 (Kd.R_lt (xr HO_201001.out))) (Kd.R_lt (xr HO_208001.out))) (Kd.R_lt (xr HO_216001.out))) (Kd.R_lt (xr HO237.out))) (below_size (xs HB.out))); replace HO_201001 := Aside0.mk (Kd.R_elder' (xr HO_201001.out) (Kd.R_base ho1) hb); replace HO_208001 := Aside0.mk (Kd.R_elder' (xr HO_208001.out) (Kd.R_base ho1) hb); replace HO_216001 := Aside0.mk (Kd.R_elder' (xr HO_216001.out) (Kd.R_base ho1) hb); replace HO237 := Aside0.mk (Kd.R_elder' (xr HO237.out) (Kd.R_base ho1) hb); replace BK185 := xk BK185 hb; replace BK200 := xk BK200 hb; replace BK207 := xk BK207 hb; replace BK215 := xk BK215 hb; replace HB := xp HB hb; (try clear hb); (try clear hb2); (try clear hk); (try clear hi); (try clear ho0); (try clear ho1)) | ((with_reducible refine gate_dst (N := 12) rfl ?_); refine box_event ?hg (N := 12) ?hd (cs := #[.slice none 0 0, .slice none 0 0]) (t := 29) ?hr ?_; (case hd => rfl); (case hg => rfl); (case hr => first | (go_simp; done) | (go_simp; rfl)); intro gb245 hg w116 hbox hb; replace HO_201000 := xq HO_201000 hb; replace HO_201001 := xq HO_201001 hb; replace HO_208000 := xq HO_208000 hb; replace HO_208001 := xq HO_208001 hb; replace HO_216000 := xq HO_216000 hb; replace HO_216001 := xq HO_216001 hb; replace HO234 := xq HO234 hb; replace HO237 := xq HO237 hb; replace HO240 := xq HO240 hb; replace HO243 := xq HO243 hb; have BK245 := Aside0.mk (hbox); have GW245 := xg HB hg; have GE245 := xg HB hg; replace HB := xp HB hb; have NB185_245 := xl BK185 hg; have NB245_185 := xh BK185 hg; replace BK185 := xk BK185 hb; have NB200_245 := xl BK200 hg; have NB245_200 := xh BK200 hg; replace BK200 := xk BK200 hb; have NB207_245 := xl BK207 hg; have NB245_207 := xh BK207 hg; replace BK207 := xk BK207 hb; have NB215_245 := xl BK215 hg; have NB245_215 := xh BK215 hg; replace BK215 := xk BK215 hb; clear hb hbox hg; obtain ⟨Ao117, co117, eo117⟩ := Kd.R_slice HO240.out; subst eo117; have hnb118 := NB245_185.out; have hnc118 := NB185_245.out; have hnb119 := NB245_200.out; have hnc119 := NB200_245.out; have hnb120 := NB245_207.out; have hnc120 := NB207_245.out; have hnb121 := NB245_215.out; have hnc121 := NB215_245.out; have hcz122_0 : w116.cell? ⟨gb245, 0, none⟩ = some (.slice none 0 0) := (blk_cell BK245.out 0).trans rfl; have hcz122_1 : w116.cell? ⟨gb245, 1, none⟩ = some (.slice none 0 0) := (blk_cell BK245.out 1).trans rfl; have hfz122_0 := blk_frozen BK245.out 0; have hfz122_1 := blk_frozen BK245.out 1; obtain ⟨Ao123, co123, eo123⟩ := Kd.R_slice HO243.out; subst eo123))
           (try simp only [Act.put, List.setIfInBounds_toArray, List.set_cons_zero, List.set_cons_succ])
           go_cut [87] (fun v87 wc => ∃ (kq : Nat) (x87_100 : Bool), v87 = .bool x87_100 ∧ Aside0 (laws_FnExactReverseFlight.j2 kq t228 x87_100 t229 t230 = some true) ∧ Aside0 (kq ≤ kj63) ∧ Aside0 (Kd.R (Kd.int .i64) 3 wc w.heap.size (fun k_ => nS k_ Ao28 t225.length co28 ∧ nS k_ Ao35 t208.length co35 ∧ nS k_ Ao117 t238.length co117) (.slice Ao21 t193.length co21) t193) ∧ Aside0 (Kd.R Kd.bool 4 wc w.heap.size (fun k_ => nS k_ Ao32 t226.length co32 ∧ nS k_ Ao40 t211.length co40 ∧ nS k_ Ao123 t241.length co123) (.slice Ao24 t196.length co24) t196) ∧ Aside0 (Kd.R (Kd.int .i64) 3 wc w.heap.size (fun k_ => nS k_ Ao21 t193.length co21 ∧ nS k_ Ao35 t208.length co35 ∧ nS k_ Ao117 t238.length co117) (.slice Ao28 t225.length co28) t225) ∧ Aside0 (Kd.R Kd.bool 4 wc w.heap.size (fun k_ => nS k_ Ao24 t196.length co24 ∧ nS k_ Ao40 t211.length co40 ∧ nS k_ Ao123 t241.length co123) (.slice Ao32 t226.length co32) t226) ∧ Aside0 (Kd.R (Kd.int .i64) 3 wc w.heap.size (fun k_ => nS k_ Ao21 t193.length co21 ∧ nS k_ Ao28 t225.length co28 ∧ nS k_ Ao117 t238.length co117) (.slice Ao35 t208.length co35) t229) ∧ Aside0 (Kd.R Kd.bool 4 wc w.heap.size (fun k_ => nS k_ Ao24 t196.length co24 ∧ nS k_ Ao32 t226.length co32 ∧ nS k_ Ao123 t241.length co123) (.slice Ao40 t211.length co40) t230) ∧ Aside0 (Kd.R (Kd.int .i64) 3 wc w.heap.size (fun k_ => nS k_ Ao21 t193.length co21 ∧ nS k_ Ao28 t225.length co28 ∧ nS k_ Ao35 t208.length co35) (.slice Ao117 t238.length co117) t238) ∧ Aside0 (Kd.R Kd.bool 4 wc w.heap.size (fun k_ => nS k_ Ao24 t196.length co24 ∧ nS k_ Ao32 t226.length co32 ∧ nS k_ Ao40 t211.length co40) (.slice Ao123 t241.length co123) t241) ∧ Aside0 (wc.heap[gb185]? = some (.cells #[(.slice A0_0 l0_0.length c0_0), (.slice A0_1 l0_1.length c0_1)] 25 (0, 0))) ∧ Aside0 (wc.heap[gb200]? = some (.cells #[(.slice Ao21 t193.length co21), (.slice Ao24 t196.length co24)] 29 (0, 0))) ∧ Aside0 (wc.heap[gb207]? = some (.cells #[(.slice Ao28 t225.length co28), (.slice Ao32 t226.length co32)] 29 (0, 0))) ∧ Aside0 (wc.heap[gb215]? = some (.cells #[(.slice Ao35 t208.length co35), (.slice Ao40 t211.length co40)] 29 (0, 0))) ∧ Aside0 (wc.heap[gb245]? = some (.cells #[(.slice Ao117 t238.length co117), (.slice Ao123 t241.length co123)] 29 (0, 0))) ∧ Aside0 (Below w.heap.size w wc))
           case first =>
            have H := HC101.out
            clear HC101
            replace H := Option.bind_eq_some_iff.mp H
            obtain ⟨t246, A1240, H⟩ := H
            replace H : (if t246 = true then (laws_FnExactReverseFlight.j2 kj63 t228 (t244 != t199) t229 t230) else (laws_FnExactReverseFlight.j2 kj63 t228 true t229 t230)) = some true := H
            have A124 := Aside0.mk A1240
            clear A1240
            by_cases c125 : t246 = true
            ·subst c125
             have H1 : (laws_FnExactReverseFlight.j2 kj63 t228 (t244 != t199) t229 t230) = some true := by first | (rw [if_pos rfl] at H; exact H) | rfl
             clear H
             have H := H1
             clear H1
             have H' := Aside0.mk H
             clear H
             have hnb126 := NB245_185.out
             have hnc126 := NB185_245.out
             have hnb127 := NB245_200.out
             have hnc127 := NB200_245.out
             have hnb128 := NB245_207.out
             have hnc128 := NB207_245.out
             have hnb129 := NB245_215.out
             have hnc129 := NB215_245.out
             have hcz130_0 : w116.cell? ⟨gb245, 0, none⟩ = some (.slice none 0 0) := (blk_cell BK245.out 0).trans rfl
             have hcz130_1 : w116.cell? ⟨gb245, 1, none⟩ = some (.slice none 0 0) := (blk_cell BK245.out 1).trans rfl
             have hfz130_0 := blk_frozen BK245.out 0
             have hfz130_1 := blk_frozen BK245.out 1
             have hnb131 := NB200_185.out
             have hnc131 := NB185_200.out
             have hnb132 := NB200_207.out
             have hnc132 := NB207_200.out
             have hnb133 := NB200_215.out
             have hnc133 := NB215_200.out
             have hcz134_0 : w116.cell? ⟨gb200, 0, none⟩ = some (.slice Ao21 t193.length co21) := (blk_cell BK200.out 0).trans rfl
             have hcz134_1 : w116.cell? ⟨gb200, 1, none⟩ = some (.slice Ao24 t196.length co24) := (blk_cell BK200.out 1).trans rfl
             have hfz134_0 := blk_frozen BK200.out 0
             have hfz134_1 := blk_frozen BK200.out 1
             go_wp2_with (first | ((with_reducible refine gate_callee (f := 14) rfl ?_); refine goesL_ (some 81) rfl rfl Try.func14 (by kernel_rfl) rfl #[.agg #[.slice Ao117 t238.length co117, .slice Ao123 t241.length co123], .agg #[.slice Ao21 t193.length co21, .slice Ao24 t196.length co24]] rfl (by (try simp only [List.map_toArray, List.map_cons, List.map_nil]); first | done | rfl | (simp only [List.length_drop, List.length_take]; rfl)) ?_; (with_reducible refine (laws_eqFlight.calls kj63 _ _ t238 _ _ t241 _ _ t193 _ _ t196 true _ ?side1 ?side2 ?side3 ?side4 ?side5 ?side6 ?side7 ?side8 A124.out).mono ?_); (case side1 => refine (Kd.R_reads' (e := 3) (base := w.heap.size) (ok := fun k_ => ((((True ∧ nS k_ Ao21 t193.length co21) ∧ nS k_ Ao28 t225.length co28) ∧ nS k_ Ao35 t208.length co35) ∧ nS k_ Ao113 t232.length co113)) (n := t238.length) (c := co117) ?_).2.2; exact (by (with_reducible repeat (first | apply Kd.R_alloc | apply Kd.R_drewN | apply Kd.R_drew)); exact (Kd.R_mono (Kd.R_far (p := ⟨gb245, 1, none⟩) (Kd.R_far (p := ⟨gb245, 0, none⟩) (Kd.R_types HO240.out BK245.out (by decide)) (fun _ hk => hk.2) (.slice Ao117 t238.length co117)) (fun _ hk => hk.2) (.slice Ao123 t241.length co123)) (fun _ h_ => h_.1)))); (case side2 => exact (Kd.R_reads' HO240.out).2.1); (case side3 => refine (Kd.R_reads' (e := 4) (base := w.heap.size) (ok := fun k_ => ((((True ∧ nS k_ Ao24 t196.length co24) ∧ nS k_ Ao32 t226.length co32) ∧ nS k_ Ao40 t211.length co40) ∧ nS k_ Ao114 t235.length co114)) (n := t241.length) (c := co123) ?_).2.2; exact (by (with_reducible repeat (first | apply Kd.R_alloc | apply Kd.R_drewN | apply Kd.R_drew)); exact (Kd.R_mono (Kd.R_far (p := ⟨gb245, 1, none⟩) (Kd.R_far (p := ⟨gb245, 0, none⟩) (Kd.R_types HO243.out BK245.out (by decide)) (fun _ hk => hk.2) (.slice Ao117 t238.length co117)) (fun _ hk => hk.2) (.slice Ao123 t241.length co123)) (fun _ h_ => h_.1)))); (case side4 => exact (Kd.R_reads' HO243.out).2.1); (case side5 => refine (Kd.R_reads' (e := 3) (base := w.heap.size) (ok := fun k_ => (((nS k_ Ao28 t225.length co28 ∧ nS k_ Ao35 t208.length co35) ∧ nS k_ Ao113 t232.length co113) ∧ nS k_ Ao117 t238.length co117)) (n := t193.length) (c := co21) ?_).2.2; exact (by (with_reducible repeat (first | apply Kd.R_alloc | apply Kd.R_drewN | apply Kd.R_drew)); exact (Kd.R_mono (Kd.R_far (p := ⟨gb245, 1, none⟩) (Kd.R_far (p := ⟨gb245, 0, none⟩) (Kd.R_types HO_201000.out BK245.out (by decide)) (fun _ hk => hk.2) (.slice Ao117 t238.length co117)) (fun _ hk => hk.2) (.slice Ao123 t241.length co123)) (fun _ h_ => h_.1)))); (case side6 => exact (Kd.R_reads' HO_201000.out).2.1); (case side7 => refine (Kd.R_reads' (e := 4) (base := w.heap.size) (ok := fun k_ => (((nS k_ Ao32 t226.length co32 ∧ nS k_ Ao40 t211.length co40) ∧ nS k_ Ao114 t235.length co114) ∧ nS k_ Ao123 t241.length co123)) (n := t196.length) (c := co24) ?_).2.2; exact (by (with_reducible repeat (first | apply Kd.R_alloc | apply Kd.R_drewN | apply Kd.R_drew)); exact (Kd.R_mono (Kd.R_far (p := ⟨gb245, 1, none⟩) (Kd.R_far (p := ⟨gb245, 0, none⟩) (Kd.R_types HO_201001.out BK245.out (by decide)) (fun _ hk => hk.2) (.slice Ao117 t238.length co117)) (fun _ hk => hk.2) (.slice Ao123 t241.length co123)) (fun _ h_ => h_.1)))); (case side8 => exact (Kd.R_reads' HO_201001.out).2.1); rintro e w135 ⟨rfl, hb⟩; refine ⟨_, rfl, ?_⟩; replace HO_201000 := Aside0.mk (Kd.R_below (by (with_reducible repeat (first | apply Kd.R_alloc | apply Kd.R_drewN | apply Kd.R_drew)); exact (Kd.R_mono (Kd.R_far (p := ⟨gb245, 1, none⟩) (Kd.R_far (p := ⟨gb245, 0, none⟩) (Kd.R_types HO_201000.out BK245.out (by decide)) (fun _ hk => hk.2) (.slice Ao117 t238.length co117)) (fun _ hk => hk.2) (.slice Ao123 t241.length co123)) (fun _ h_ => h_.1))) hb); replace HO_201001 := Aside0.mk (Kd.R_below (by (with_reducible repeat (first | apply Kd.R_alloc | apply Kd.R_drewN | apply Kd.R_drew)); exact (Kd.R_mono (Kd.R_far (p := ⟨gb245, 1, none⟩) (Kd.R_far (p := ⟨gb245, 0, none⟩) (Kd.R_types HO_201001.out BK245.out (by decide)) (fun _ hk => hk.2) (.slice Ao117 t238.length co117)) (fun _ hk => hk.2) (.slice Ao123 t241.length co123)) (fun _ h_ => h_.1))) hb); replace HO_208000 := Aside0.mk (Kd.R_below (by (with_reducible repeat (first | apply Kd.R_alloc | apply Kd.R_drewN | apply Kd.R_drew)); exact (Kd.R_mono (Kd.R_far (p := ⟨gb245, 1, none⟩) (Kd.R_far (p := ⟨gb245, 0, none⟩) (Kd.R_types HO_208000.out BK245.out (by decide)) (fun _ hk => hk.2) (.slice Ao117 t238.length co117)) (fun _ hk => hk.2) (.slice Ao123 t241.length co123)) (fun _ h_ => h_.1))) hb); replace HO_208001 := Aside0.mk (Kd.R_below (by (with_reducible repeat (first | apply Kd.R_alloc | apply Kd.R_drewN | apply Kd.R_drew)); exact (Kd.R_mono (Kd.R_far (p := ⟨gb245, 1, none⟩) (Kd.R_far (p := ⟨gb245, 0, none⟩) (Kd.R_types HO_208001.out BK245.out (by decide)) (fun _ hk => hk.2) (.slice Ao117 t238.length co117)) (fun _ hk => hk.2) (.slice Ao123 t241.length co123)) (fun _ h_ => h_.1))) hb); replace HO_216000 := Aside0.mk (Kd.R_below (by (with_reducible repeat (first | apply Kd.R_alloc | apply Kd.R_drewN | apply Kd.R_drew)); exact (Kd.R_mono (Kd.R_far (p := ⟨gb245, 1, none⟩) (Kd.R_far (p := ⟨gb245, 0, none⟩) (Kd.R_types HO_216000.out BK245.out (by decide)) (fun _ hk => hk.2) (.slice Ao117 t238.length co117)) (fun _ hk => hk.2) (.slice Ao123 t241.length co123)) (fun _ h_ => h_.1))) hb); replace HO_216001 := Aside0.mk (Kd.R_below (by (with_reducible repeat (first | apply Kd.R_alloc | apply Kd.R_drewN | apply Kd.R_drew)); exact (Kd.R_mono (Kd.R_far (p := ⟨gb245, 1, none⟩) (Kd.R_far (p := ⟨gb245, 0, none⟩) (Kd.R_types HO_216001.out BK245.out (by decide)) (fun _ hk => hk.2) (.slice Ao117 t238.length co117)) (fun _ hk => hk.2) (.slice Ao123 t241.length co123)) (fun _ h_ => h_.1))) hb); replace HO234 := Aside0.mk (Kd.R_below (by (with_reducible repeat (first | apply Kd.R_alloc | apply Kd.R_drewN | apply Kd.R_drew)); exact (Kd.R_mono (Kd.R_far (p := ⟨gb245, 1, none⟩) (Kd.R_far (p := ⟨gb245, 0, none⟩) (Kd.R_types HO234.out BK245.out (by decide)) (fun _ hk => hk.2) (.slice Ao117 t238.length co117)) (fun _ hk => hk.2) (.slice Ao123 t241.length co123)) (fun _ h_ => h_.1))) hb); replace HO237 := Aside0.mk (Kd.R_below (by (with_reducible repeat (first | apply Kd.R_alloc | apply Kd.R_drewN | apply Kd.R_drew)); exact (Kd.R_mono (Kd.R_far (p := ⟨gb245, 1, none⟩) (Kd.R_far (p := ⟨gb245, 0, none⟩) (Kd.R_types HO237.out BK245.out (by decide)) (fun _ hk => hk.2) (.slice Ao117 t238.length co117)) (fun _ hk => hk.2) (.slice Ao123 t241.length co123)) (fun _ h_ => h_.1))) hb); replace HO240 := Aside0.mk (Kd.R_below (by (with_reducible repeat (first | apply Kd.R_alloc | apply Kd.R_drewN | apply Kd.R_drew)); exact (Kd.R_mono (Kd.R_far (p := ⟨gb245, 1, none⟩) (Kd.R_far (p := ⟨gb245, 0, none⟩) (Kd.R_types HO240.out BK245.out (by decide)) (fun _ hk => hk.2) (.slice Ao117 t238.length co117)) (fun _ hk => hk.2) (.slice Ao123 t241.length co123)) (fun _ h_ => h_.1))) hb); replace HO243 := Aside0.mk (Kd.R_below (by (with_reducible repeat (first | apply Kd.R_alloc | apply Kd.R_drewN | apply Kd.R_drew)); exact (Kd.R_mono (Kd.R_far (p := ⟨gb245, 1, none⟩) (Kd.R_far (p := ⟨gb245, 0, none⟩) (Kd.R_types HO243.out BK245.out (by decide)) (fun _ hk => hk.2) (.slice Ao117 t238.length co117)) (fun _ hk => hk.2) (.slice Ao123 t241.length co123)) (fun _ h_ => h_.1))) hb); replace BK185 := Aside0.mk (blk_below (g := gb185) (o := .cells #[.slice A0_0 l0_0.length c0_0, .slice A0_1 l0_1.length c0_1] 25 (0, 0)) (xff NB185_245.out NB185_245.out BK185.out) hb); replace BK200 := Aside0.mk (blk_below (g := gb200) (o := .cells #[.slice Ao21 t193.length co21, .slice Ao24 t196.length co24] 29 (0, 0)) (xff NB200_245.out NB200_245.out BK200.out) hb); replace BK207 := Aside0.mk (blk_below (g := gb207) (o := .cells #[.slice Ao28 t225.length co28, .slice Ao32 t226.length co32] 29 (0, 0)) (xff NB207_245.out NB207_245.out BK207.out) hb); replace BK215 := Aside0.mk (blk_below (g := gb215) (o := .cells #[.slice Ao35 t208.length co35, .slice Ao40 t211.length co40] 29 (0, 0)) (xff NB215_245.out NB215_245.out BK215.out) hb); replace BK245 := Aside0.mk (blk_below (g := gb245) (o := .cells #[.slice Ao117 t238.length co117, .slice Ao123 t241.length co123] 29 (0, 0)) (by (with_reducible repeat (first | refine blk_drewN ?_ _ | refine blk_drew ?_ | refine blk_alloc ?_ _)); refine blk_put (cs := #[.slice Ao117 t238.length co117, .slice none 0 0]) ?_ 1 _ rfl; (with_reducible repeat (first | refine blk_drewN ?_ _ | refine blk_drew ?_ | refine blk_alloc ?_ _)); refine blk_put (cs := #[.slice none 0 0, .slice none 0 0]) ?_ 0 _ rfl; (with_reducible repeat (first | refine blk_drewN ?_ _ | refine blk_drew ?_ | refine blk_alloc ?_ _)); exact BK245.out) hb); replace HB := xp HB hb; (try clear hb); (try clear hb2); (try clear hk); (try clear hi)))
             go_meet
             case rel => exact ⟨_, ((t244 != t199)), (by first | rfl | (simp; done) | (simp [*]; done)), H', ⟨by have := HJ10.out; have := HJ63.out; first | omega | exact Nat.le_refl _⟩, ⟨by (try simp only [hl208000_63]); (try simp only [hl208001_63]); (with_reducible repeat (first | apply Kd.R_alloc | apply Kd.R_drewN | apply Kd.R_drew)); exact Kd.R_mono HO_201000.out (fun _ hk => ⟨hk.1.1.1, ⟨hk.1.1.2, hk.2⟩⟩)⟩, ⟨by (try simp only [hl208000_63]); (try simp only [hl208001_63]); (with_reducible repeat (first | apply Kd.R_alloc | apply Kd.R_drewN | apply Kd.R_drew)); exact Kd.R_mono HO_201001.out (fun _ hk => ⟨hk.1.1.1, ⟨hk.1.1.2, hk.2⟩⟩)⟩, ⟨by (try simp only [hl208000_63]); (try simp only [hl208001_63]); (with_reducible repeat (first | apply Kd.R_alloc | apply Kd.R_drewN | apply Kd.R_drew)); exact Kd.R_mono HO_208000.out (fun _ hk => ⟨hk.1.1.1, ⟨hk.1.1.2, hk.2⟩⟩)⟩, ⟨by (try simp only [hl208000_63]); (try simp only [hl208001_63]); (with_reducible repeat (first | apply Kd.R_alloc | apply Kd.R_drewN | apply Kd.R_drew)); exact Kd.R_mono HO_208001.out (fun _ hk => ⟨hk.1.1.1, ⟨hk.1.1.2, hk.2⟩⟩)⟩, ⟨by (try simp only [hl208000_63]); (try simp only [hl208001_63]); (with_reducible repeat (first | apply Kd.R_alloc | apply Kd.R_drewN | apply Kd.R_drew)); exact Kd.R_mono HO_216000.out (fun _ hk => ⟨hk.1.1.1, ⟨hk.1.1.2, hk.2⟩⟩)⟩, ⟨by (try simp only [hl208000_63]); (try simp only [hl208001_63]); (with_reducible repeat (first | apply Kd.R_alloc | apply Kd.R_drewN | apply Kd.R_drew)); exact Kd.R_mono HO_216001.out (fun _ hk => ⟨hk.1.1.1, ⟨hk.1.1.2, hk.2⟩⟩)⟩, ⟨by (try simp only [hl208000_63]); (try simp only [hl208001_63]); (with_reducible repeat (first | apply Kd.R_alloc | apply Kd.R_drewN | apply Kd.R_drew)); exact Kd.R_mono HO240.out (fun _ hk => ⟨hk.1.1.1.2, ⟨hk.1.1.2, hk.1.2⟩⟩)⟩, ⟨by (try simp only [hl208000_63]); (try simp only [hl208001_63]); (with_reducible repeat (first | apply Kd.R_alloc | apply Kd.R_drewN | apply Kd.R_drew)); exact Kd.R_mono HO243.out (fun _ hk => ⟨hk.1.1.1.2, ⟨hk.1.1.2, hk.1.2⟩⟩)⟩, ⟨by (try simp only [hl208000_63]); (try simp only [hl208001_63]); (with_reducible repeat (first | refine blk_drewN ?_ _ | refine blk_drew ?_ | refine blk_alloc ?_ _)); exact BK185.out⟩, ⟨by (try simp only [hl208000_63]); (try simp only [hl208001_63]); (with_reducible repeat (first | refine blk_drewN ?_ _ | refine blk_drew ?_ | refine blk_alloc ?_ _)); exact BK200.out⟩, ⟨by (try simp only [hl208000_63]); (try simp only [hl208001_63]); (with_reducible repeat (first | refine blk_drewN ?_ _ | refine blk_drew ?_ | refine blk_alloc ?_ _)); exact BK207.out⟩, ⟨by (try simp only [hl208000_63]); (try simp only [hl208001_63]); (with_reducible repeat (first | refine blk_drewN ?_ _ | refine blk_drew ?_ | refine blk_alloc ?_ _)); exact BK215.out⟩, ⟨by (try simp only [hl208000_63]); (try simp only [hl208001_63]); (with_reducible repeat (first | refine blk_drewN ?_ _ | refine blk_drew ?_ | refine blk_alloc ?_ _)); exact BK245.out⟩, ⟨xs HB.out⟩⟩
            ·replace c125 := Bool.eq_false_iff.mpr c125
             subst c125
             have H1 : (laws_FnExactReverseFlight.j2 kj63 t228 true t229 t230) = some true := by first | (rw [if_neg (show ¬ (false = true) by decide)] at H; exact H) | rfl
             clear H
             have H := H1
             clear H1
             have H' := Aside0.mk H
             clear H
             have hnb136 := NB245_185.out
             have hnc136 := NB185_245.out
             have hnb137 := NB245_200.out
             have hnc137 := NB200_245.out
             have hnb138 := NB245_207.out
             have hnc138 := NB207_245.out
             have hnb139 := NB245_215.out
             have hnc139 := NB215_245.out
             have hcz140_0 : w116.cell? ⟨gb245, 0, none⟩ = some (.slice none 0 0) := (blk_cell BK245.out 0).trans rfl
             have hcz140_1 : w116.cell? ⟨gb245, 1, none⟩ = some (.slice none 0 0) := (blk_cell BK245.out 1).trans rfl
             have hfz140_0 := blk_frozen BK245.out 0
             have hfz140_1 := blk_frozen BK245.out 1
             have hnb141 := NB200_185.out
             have hnc141 := NB185_200.out
             have hnb142 := NB200_207.out
             have hnc142 := NB207_200.out
             have hnb143 := NB200_215.out
             have hnc143 := NB215_200.out
             have hcz144_0 : w116.cell? ⟨gb200, 0, none⟩ = some (.slice Ao21 t193.length co21) := (blk_cell BK200.out 0).trans rfl
             have hcz144_1 : w116.cell? ⟨gb200, 1, none⟩ = some (.slice Ao24 t196.length co24) := (blk_cell BK200.out 1).trans rfl
             have hfz144_0 := blk_frozen BK200.out 0
             have hfz144_1 := blk_frozen BK200.out 1
             go_wp2_with (first | ((with_reducible refine gate_callee (f := 14) rfl ?_); refine goesL_ (some 81) rfl rfl Try.func14 (by kernel_rfl) rfl #[.agg #[.slice Ao117 t238.length co117, .slice Ao123 t241.length co123], .agg #[.slice Ao21 t193.length co21, .slice Ao24 t196.length co24]] rfl (by (try simp only [List.map_toArray, List.map_cons, List.map_nil]); first | done | rfl | (simp only [List.length_drop, List.length_take]; rfl)) ?_; (with_reducible refine (laws_eqFlight.calls kj63 _ _ t238 _ _ t241 _ _ t193 _ _ t196 false _ ?side1 ?side2 ?side3 ?side4 ?side5 ?side6 ?side7 ?side8 A124.out).mono ?_); (case side1 => refine (Kd.R_reads' (e := 3) (base := w.heap.size) (ok := fun k_ => ((((True ∧ nS k_ Ao21 t193.length co21) ∧ nS k_ Ao28 t225.length co28) ∧ nS k_ Ao35 t208.length co35) ∧ nS k_ Ao113 t232.length co113)) (n := t238.length) (c := co117) ?_).2.2; exact (by (with_reducible repeat (first | apply Kd.R_alloc | apply Kd.R_drewN | apply Kd.R_drew)); exact (Kd.R_mono (Kd.R_far (p := ⟨gb245, 1, none⟩) (Kd.R_far (p := ⟨gb245, 0, none⟩) (Kd.R_types HO240.out BK245.out (by decide)) (fun _ hk => hk.2) (.slice Ao117 t238.length co117)) (fun _ hk => hk.2) (.slice Ao123 t241.length co123)) (fun _ h_ => h_.1)))); (case side2 => exact (Kd.R_reads' HO240.out).2.1); (case side3 => refine (Kd.R_reads' (e := 4) (base := w.heap.size) (ok := fun k_ => ((((True ∧ nS k_ Ao24 t196.length co24) ∧ nS k_ Ao32 t226.length co32) ∧ nS k_ Ao40 t211.length co40) ∧ nS k_ Ao114 t235.length co114)) (n := t241.length) (c := co123) ?_).2.2; exact (by (with_reducible repeat (first | apply Kd.R_alloc | apply Kd.R_drewN | apply Kd.R_drew)); exact (Kd.R_mono (Kd.R_far (p := ⟨gb245, 1, none⟩) (Kd.R_far (p := ⟨gb245, 0, none⟩) (Kd.R_types HO243.out BK245.out (by decide)) (fun _ hk => hk.2) (.slice Ao117 t238.length co117)) (fun _ hk => hk.2) (.slice Ao123 t241.length co123)) (fun _ h_ => h_.1)))); (case side4 => exact (Kd.R_reads' HO243.out).2.1); (case side5 => refine (Kd.R_reads' (e := 3) (base := w.heap.size) (ok := fun k_ => (((nS k_ Ao28 t225.length co28 ∧ nS k_ Ao35 t208.length co35) ∧ nS k_ Ao113 t232.length co113) ∧ nS k_ Ao117 t238.length co117)) (n := t193.length) (c := co21) ?_).2.2; exact (by (with_reducible repeat (first | apply Kd.R_alloc | apply Kd.R_drewN | apply Kd.R_drew)); exact (Kd.R_mono (Kd.R_far (p := ⟨gb245, 1, none⟩) (Kd.R_far (p := ⟨gb245, 0, none⟩) (Kd.R_types HO_201000.out BK245.out (by decide)) (fun _ hk => hk.2) (.slice Ao117 t238.length co117)) (fun _ hk => hk.2) (.slice Ao123 t241.length co123)) (fun _ h_ => h_.1)))); (case side6 => exact (Kd.R_reads' HO_201000.out).2.1); (case side7 => refine (Kd.R_reads' (e := 4) (base := w.heap.size) (ok := fun k_ => (((nS k_ Ao32 t226.length co32 ∧ nS k_ Ao40 t211.length co40) ∧ nS k_ Ao114 t235.length co114) ∧ nS k_ Ao123 t241.length co123)) (n := t196.length) (c := co24) ?_).2.2; exact (by (with_reducible repeat (first | apply Kd.R_alloc | apply Kd.R_drewN | apply Kd.R_drew)); exact (Kd.R_mono (Kd.R_far (p := ⟨gb245, 1, none⟩) (Kd.R_far (p := ⟨gb245, 0, none⟩) (Kd.R_types HO_201001.out BK245.out (by decide)) (fun _ hk => hk.2) (.slice Ao117 t238.length co117)) (fun _ hk => hk.2) (.slice Ao123 t241.length co123)) (fun _ h_ => h_.1)))); (case side8 => exact (Kd.R_reads' HO_201001.out).2.1); rintro e w145 ⟨rfl, hb⟩; refine ⟨_, rfl, ?_⟩; replace HO_201000 := Aside0.mk (Kd.R_below (by (with_reducible repeat (first | apply Kd.R_alloc | apply Kd.R_drewN | apply Kd.R_drew)); exact (Kd.R_mono (Kd.R_far (p := ⟨gb245, 1, none⟩) (Kd.R_far (p := ⟨gb245, 0, none⟩) (Kd.R_types HO_201000.out BK245.out (by decide)) (fun _ hk => hk.2) (.slice Ao117 t238.length co117)) (fun _ hk => hk.2) (.slice Ao123 t241.length co123)) (fun _ h_ => h_.1))) hb); replace HO_201001 := Aside0.mk (Kd.R_below (by (with_reducible repeat (first | apply Kd.R_alloc | apply Kd.R_drewN | apply Kd.R_drew)); exact (Kd.R_mono (Kd.R_far (p := ⟨gb245, 1, none⟩) (Kd.R_far (p := ⟨gb245, 0, none⟩) (Kd.R_types HO_201001.out BK245.out (by decide)) (fun _ hk => hk.2) (.slice Ao117 t238.length co117)) (fun _ hk => hk.2) (.slice Ao123 t241.length co123)) (fun _ h_ => h_.1))) hb); replace HO_208000 := Aside0.mk (Kd.R_below (by (with_reducible repeat (first | apply Kd.R_alloc | apply Kd.R_drewN | apply Kd.R_drew)); exact (Kd.R_mono (Kd.R_far (p := ⟨gb245, 1, none⟩) (Kd.R_far (p := ⟨gb245, 0, none⟩) (Kd.R_types HO_208000.out BK245.out (by decide)) (fun _ hk => hk.2) (.slice Ao117 t238.length co117)) (fun _ hk => hk.2) (.slice Ao123 t241.length co123)) (fun _ h_ => h_.1))) hb); replace HO_208001 := Aside0.mk (Kd.R_below (by (with_reducible repeat (first | apply Kd.R_alloc | apply Kd.R_drewN | apply Kd.R_drew)); exact (Kd.R_mono (Kd.R_far (p := ⟨gb245, 1, none⟩) (Kd.R_far (p := ⟨gb245, 0, none⟩) (Kd.R_types HO_208001.out BK245.out (by decide)) (fun _ hk => hk.2) (.slice Ao117 t238.length co117)) (fun _ hk => hk.2) (.slice Ao123 t241.length co123)) (fun _ h_ => h_.1))) hb); replace HO_216000 := Aside0.mk (Kd.R_below (by (with_reducible repeat (first | apply Kd.R_alloc | apply Kd.R_drewN | apply Kd.R_drew)); exact (Kd.R_mono (Kd.R_far (p := ⟨gb245, 1, none⟩) (Kd.R_far (p := ⟨gb245, 0, none⟩) (Kd.R_types HO_216000.out BK245.out (by decide)) (fun _ hk => hk.2) (.slice Ao117 t238.length co117)) (fun _ hk => hk.2) (.slice Ao123 t241.length co123)) (fun _ h_ => h_.1))) hb); replace HO_216001 := Aside0.mk (Kd.R_below (by (with_reducible repeat (first | apply Kd.R_alloc | apply Kd.R_drewN | apply Kd.R_drew)); exact (Kd.R_mono (Kd.R_far (p := ⟨gb245, 1, none⟩) (Kd.R_far (p := ⟨gb245, 0, none⟩) (Kd.R_types HO_216001.out BK245.out (by decide)) (fun _ hk => hk.2) (.slice Ao117 t238.length co117)) (fun _ hk => hk.2) (.slice Ao123 t241.length co123)) (fun _ h_ => h_.1))) hb); replace HO234 := Aside0.mk (Kd.R_below (by (with_reducible repeat (first | apply Kd.R_alloc | apply Kd.R_drewN | apply Kd.R_drew)); exact (Kd.R_mono (Kd.R_far (p := ⟨gb245, 1, none⟩) (Kd.R_far (p := ⟨gb245, 0, none⟩) (Kd.R_types HO234.out BK245.out (by decide)) (fun _ hk => hk.2) (.slice Ao117 t238.length co117)) (fun _ hk => hk.2) (.slice Ao123 t241.length co123)) (fun _ h_ => h_.1))) hb); replace HO237 := Aside0.mk (Kd.R_below (by (with_reducible repeat (first | apply Kd.R_alloc | apply Kd.R_drewN | apply Kd.R_drew)); exact (Kd.R_mono (Kd.R_far (p := ⟨gb245, 1, none⟩) (Kd.R_far (p := ⟨gb245, 0, none⟩) (Kd.R_types HO237.out BK245.out (by decide)) (fun _ hk => hk.2) (.slice Ao117 t238.length co117)) (fun _ hk => hk.2) (.slice Ao123 t241.length co123)) (fun _ h_ => h_.1))) hb); replace HO240 := Aside0.mk (Kd.R_below (by (with_reducible repeat (first | apply Kd.R_alloc | apply Kd.R_drewN | apply Kd.R_drew)); exact (Kd.R_mono (Kd.R_far (p := ⟨gb245, 1, none⟩) (Kd.R_far (p := ⟨gb245, 0, none⟩) (Kd.R_types HO240.out BK245.out (by decide)) (fun _ hk => hk.2) (.slice Ao117 t238.length co117)) (fun _ hk => hk.2) (.slice Ao123 t241.length co123)) (fun _ h_ => h_.1))) hb); replace HO243 := Aside0.mk (Kd.R_below (by (with_reducible repeat (first | apply Kd.R_alloc | apply Kd.R_drewN | apply Kd.R_drew)); exact (Kd.R_mono (Kd.R_far (p := ⟨gb245, 1, none⟩) (Kd.R_far (p := ⟨gb245, 0, none⟩) (Kd.R_types HO243.out BK245.out (by decide)) (fun _ hk => hk.2) (.slice Ao117 t238.length co117)) (fun _ hk => hk.2) (.slice Ao123 t241.length co123)) (fun _ h_ => h_.1))) hb); replace BK185 := Aside0.mk (blk_below (g := gb185) (o := .cells #[.slice A0_0 l0_0.length c0_0, .slice A0_1 l0_1.length c0_1] 25 (0, 0)) (xff NB185_245.out NB185_245.out BK185.out) hb); replace BK200 := Aside0.mk (blk_below (g := gb200) (o := .cells #[.slice Ao21 t193.length co21, .slice Ao24 t196.length co24] 29 (0, 0)) (xff NB200_245.out NB200_245.out BK200.out) hb); replace BK207 := Aside0.mk (blk_below (g := gb207) (o := .cells #[.slice Ao28 t225.length co28, .slice Ao32 t226.length co32] 29 (0, 0)) (xff NB207_245.out NB207_245.out BK207.out) hb); replace BK215 := Aside0.mk (blk_below (g := gb215) (o := .cells #[.slice Ao35 t208.length co35, .slice Ao40 t211.length co40] 29 (0, 0)) (xff NB215_245.out NB215_245.out BK215.out) hb); replace BK245 := Aside0.mk (blk_below (g := gb245) (o := .cells #[.slice Ao117 t238.length co117, .slice Ao123 t241.length co123] 29 (0, 0)) (by (with_reducible repeat (first | refine blk_drewN ?_ _ | refine blk_drew ?_ | refine blk_alloc ?_ _)); refine blk_put (cs := #[.slice Ao117 t238.length co117, .slice none 0 0]) ?_ 1 _ rfl; (with_reducible repeat (first | refine blk_drewN ?_ _ | refine blk_drew ?_ | refine blk_alloc ?_ _)); refine blk_put (cs := #[.slice none 0 0, .slice none 0 0]) ?_ 0 _ rfl; (with_reducible repeat (first | refine blk_drewN ?_ _ | refine blk_drew ?_ | refine blk_alloc ?_ _)); exact BK245.out) hb); replace HB := xp HB hb; (try clear hb); (try clear hb2); (try clear hk); (try clear hi)))
             go_meet
             case rel => exact ⟨_, (true), (by first | rfl | (simp; done) | (simp [*]; done)), H', ⟨by have := HJ10.out; have := HJ63.out; first | omega | exact Nat.le_refl _⟩, ⟨by (try simp only [hl208000_63]); (try simp only [hl208001_63]); (with_reducible repeat (first | apply Kd.R_alloc | apply Kd.R_drewN | apply Kd.R_drew)); exact Kd.R_mono HO_201000.out (fun _ hk => ⟨hk.1.1.1, ⟨hk.1.1.2, hk.2⟩⟩)⟩, ⟨by (try simp only [hl208000_63]); (try simp only [hl208001_63]); (with_reducible repeat (first | apply Kd.R_alloc | apply Kd.R_drewN | apply Kd.R_drew)); exact Kd.R_mono HO_201001.out (fun _ hk => ⟨hk.1.1.1, ⟨hk.1.1.2, hk.2⟩⟩)⟩, ⟨by (try simp only [hl208000_63]); (try simp only [hl208001_63]); (with_reducible repeat (first | apply Kd.R_alloc | apply Kd.R_drewN | apply Kd.R_drew)); exact Kd.R_mono HO_208000.out (fun _ hk => ⟨hk.1.1.1, ⟨hk.1.1.2, hk.2⟩⟩)⟩, ⟨by (try simp only [hl208000_63]); (try simp only [hl208001_63]); (with_reducible repeat (first | apply Kd.R_alloc | apply Kd.R_drewN | apply Kd.R_drew)); exact Kd.R_mono HO_208001.out (fun _ hk => ⟨hk.1.1.1, ⟨hk.1.1.2, hk.2⟩⟩)⟩, ⟨by (try simp only [hl208000_63]); (try simp only [hl208001_63]); (with_reducible repeat (first | apply Kd.R_alloc | apply Kd.R_drewN | apply Kd.R_drew)); exact Kd.R_mono HO_216000.out (fun _ hk => ⟨hk.1.1.1, ⟨hk.1.1.2, hk.2⟩⟩)⟩, ⟨by (try simp only [hl208000_63]); (try simp only [hl208001_63]); (with_reducible repeat (first | apply Kd.R_alloc | apply Kd.R_drewN | apply Kd.R_drew)); exact Kd.R_mono HO_216001.out (fun _ hk => ⟨hk.1.1.1, ⟨hk.1.1.2, hk.2⟩⟩)⟩, ⟨by (try simp only [hl208000_63]); (try simp only [hl208001_63]); (with_reducible repeat (first | apply Kd.R_alloc | apply Kd.R_drewN | apply Kd.R_drew)); exact Kd.R_mono HO240.out (fun _ hk => ⟨hk.1.1.1.2, ⟨hk.1.1.2, hk.1.2⟩⟩)⟩, ⟨by (try simp only [hl208000_63]); (try simp only [hl208001_63]); (with_reducible repeat (first | apply Kd.R_alloc | apply Kd.R_drewN | apply Kd.R_drew)); exact Kd.R_mono HO243.out (fun _ hk => ⟨hk.1.1.1.2, ⟨hk.1.1.2, hk.1.2⟩⟩)⟩, ⟨by (try simp only [hl208000_63]); (try simp only [hl208001_63]); (with_reducible repeat (first | refine blk_drewN ?_ _ | refine blk_drew ?_ | refine blk_alloc ?_ _)); exact BK185.out⟩, ⟨by (try simp only [hl208000_63]); (try simp only [hl208001_63]); (with_reducible repeat (first | refine blk_drewN ?_ _ | refine blk_drew ?_ | refine blk_alloc ?_ _)); exact BK200.out⟩, ⟨by (try simp only [hl208000_63]); (try simp only [hl208001_63]); (with_reducible repeat (first | refine blk_drewN ?_ _ | refine blk_drew ?_ | refine blk_alloc ?_ _)); exact BK207.out⟩, ⟨by (try simp only [hl208000_63]); (try simp only [hl208001_63]); (with_reducible repeat (first | refine blk_drewN ?_ _ | refine blk_drew ?_ | refine blk_alloc ?_ _)); exact BK215.out⟩, ⟨by (try simp only [hl208000_63]); (try simp only [hl208001_63]); (with_reducible repeat (first | refine blk_drewN ?_ _ | refine blk_drew ?_ | refine blk_alloc ?_ _)); exact BK245.out⟩, ⟨xs HB.out⟩⟩
           case rest =>
            clear HC101
            try clear c1
            try clear c2
            try clear p2
            try clear c3
            try clear c3b0
            try clear c4
            try clear c5
            try clear c6
            try clear c7
            try clear c8
            try clear c9
            try clear c10
            try clear c11
            try clear c12
            try clear c13
            try clear c14
            try clear c17
            try clear c18
            try clear c19
            try clear c20
            try clear c22
            try clear c29
            try clear c30
            try clear c36
            try clear c37
            try clear c38
            try clear c42
            try clear c43
            try clear c44
            try clear c45
            try clear c47
            try clear c48
            try clear c51
            try clear c52
            try clear c53
            try clear c55
            try clear c56
            try clear c59
            try clear c62
            try clear c70
            try clear c71
            try clear c72
            try clear c75
            try clear c75b0
            try clear c77
            try clear c78
            try clear c79
            try clear c80
            try clear c82
            try clear c83
            try clear c86
            try clear c87
            try clear c88
            try clear c90
            try clear c91
            try clear c94
            try clear c97
            try clear c97b0
            try clear c98
            try clear c98b0
            try clear c98b1
            try clear c102
            try clear c103
            try clear c104
            try clear c109
            try clear c110
            try clear c118
            try clear c119
            try clear c120
            try clear c121
            try clear c125
            try clear c126
            try clear c127
            try clear c128
            try clear c129
            try clear c131
            try clear c132
            try clear c133
            try clear c136
            try clear c137
            try clear c138
            try clear c139
            try clear c141
            try clear c142
            try clear c143
            try clear hcz105_0
            try clear hcz105_1
            try clear hcz107_0
            try clear hcz107_1
            try clear hcz111_0
            try clear hcz111_1
            try clear hcz122_0
            try clear hcz122_1
            try clear hcz130_0
            try clear hcz130_1
            try clear hcz134_0
            try clear hcz134_1
            try clear hcz13_0
            try clear hcz13_1
            try clear hcz140_0
            try clear hcz140_1
            try clear hcz144_0
            try clear hcz144_1
            try clear hcz15_0
            try clear hcz15_1
            try clear hcz23_0
            try clear hcz23_1
            try clear hcz25_0
            try clear hcz25_1
            try clear hcz31_0
            try clear hcz31_1
            try clear hcz39_0
            try clear hcz39_1
            try clear hcz46_0
            try clear hcz46_1
            try clear hcz49_0
            try clear hcz49_1
            try clear hcz54_0
            try clear hcz54_1
            try clear hcz57_0
            try clear hcz57_1
            try clear hcz5_0
            try clear hcz5_1
            try clear hcz73_0
            try clear hcz73_1
            try clear hcz81_0
            try clear hcz81_1
            try clear hcz84_0
            try clear hcz84_1
            try clear hcz89_0
            try clear hcz89_1
            try clear hcz92_0
            try clear hcz92_1
            try clear hfz105_0
            try clear hfz105_1
            try clear hfz107_0
            try clear hfz107_1
            try clear hfz111_0
            try clear hfz111_1
            try clear hfz122_0
            try clear hfz122_1
            try clear hfz130_0
            try clear hfz130_1
            try clear hfz134_0
            try clear hfz134_1
            try clear hfz13_0
            try clear hfz13_1
            try clear hfz140_0
            try clear hfz140_1
            try clear hfz144_0
            try clear hfz144_1
            try clear hfz15_0
            try clear hfz15_1
            try clear hfz23_0
            try clear hfz23_1
            try clear hfz25_0
            try clear hfz25_1
            try clear hfz31_0
            try clear hfz31_1
            try clear hfz39_0
            try clear hfz39_1
            try clear hfz46_0
            try clear hfz46_1
            try clear hfz49_0
            try clear hfz49_1
            try clear hfz54_0
            try clear hfz54_1
            try clear hfz57_0
            try clear hfz57_1
            try clear hfz5_0
            try clear hfz5_1
            try clear hfz73_0
            try clear hfz73_1
            try clear hfz81_0
            try clear hfz81_1
            try clear hfz84_0
            try clear hfz84_1
            try clear hfz89_0
            try clear hfz89_1
            try clear hfz92_0
            try clear hfz92_1
            try clear p2
            obtain ⟨kq, x87_100, rfl, HA, HJ100, HO_201000, HO_201001, HO_208000, HO_208001, HO_216000, HO_216001, HO_246000, HO_246001, BK185, BK200, BK207, BK215, BK245, HB⟩ := hcut
            have hl216000_100 := (Kd.R_reads' HO_216000.out).1
            rw [hl216000_100] at HO_216000
            (try simp only [hl216000_100])
            (try simp only [hl216000_100] at BK185)
            (try simp only [hl216000_100] at BK200)
            (try simp only [hl216000_100] at BK207)
            (try simp only [hl216000_100] at BK215)
            (try simp only [hl216000_100] at BK245)
            (try simp only [hl216000_100] at HO_201000)
            (try simp only [hl216000_100] at HO_201001)
            (try simp only [hl216000_100] at HO_208000)
            (try simp only [hl216000_100] at HO_208001)
            (try simp only [hl216000_100] at HO_216001)
            (try simp only [hl216000_100] at HO_246000)
            (try simp only [hl216000_100] at HO_246001)
            have hl216001_100 := (Kd.R_reads' HO_216001.out).1
            rw [hl216001_100] at HO_216001
            (try simp only [hl216001_100])
            (try simp only [hl216001_100] at BK185)
            (try simp only [hl216001_100] at BK200)
            (try simp only [hl216001_100] at BK207)
            (try simp only [hl216001_100] at BK215)
            (try simp only [hl216001_100] at BK245)
            (try simp only [hl216001_100] at HO_201000)
            (try simp only [hl216001_100] at HO_201001)
            (try simp only [hl216001_100] at HO_208000)
            (try simp only [hl216001_100] at HO_208001)
            (try simp only [hl216001_100] at HO_216000)
            (try simp only [hl216001_100] at HO_246000)
            (try simp only [hl216001_100] at HO_246001)
            cases kq with
            | zero => exact absurd HA.out (by simp [laws_FnExactReverseFlight.j2])
            | succ kj100 =>
             have H := HA.out
             clear HA
             simp only [laws_FnExactReverseFlight.j2] at H
             by_cases c146 : x87_100 = true
             ·subst c146
              have H1 : (some false) = some true := by first | (rw [if_pos rfl] at H; exact H) | rfl
              clear H
              have H := H1
              clear H1
              exact absurd H (by simp)
             ·replace c146 := Bool.eq_false_iff.mpr c146
              subst c146
              have H1 : ((laws_heldFlight.f kj100 t229 t230 1).bind fun t247 => (if t247 < 0 then (some false) else (if t247 = t228 then (some true) else (some false)))) = some true := by first | (rw [if_neg (show ¬ (false = true) by decide)] at H; exact H) | rfl
              clear H
              have H := H1
              clear H1
              replace H := Option.bind_eq_some_iff.mp H
              obtain ⟨t247, A1470, H⟩ := H
              replace H : (if t247 < 0 then (some false) else (if t247 = t228 then (some true) else (some false))) = some true := H
              have A147 := Aside0.mk A1470
              clear A1470
              by_cases c148 : t247 < 0
              ·rw [if_pos c148] at H
               have c148b0 : decide (t247 < 0) = true := decide_eq_true c148
               clear c148
               exact absurd H (by simp)
              ·rw [if_neg c148] at H
               have c148b0 : decide (t247 < 0) = false := decide_eq_false c148
               clear c148
               by_cases c149 : t247 = t228
               ·rw [if_pos c149] at H
                have c149b0 : (t247 == t228) = true := beq_iff_eq.mpr c149
                have c149b1 : (t247 != t228) = false := bne_eq_false_iff_eq.mpr c149
                clear c149
                clear H
                have hnb150 := NB215_185.out
                have hnc150 := NB185_215.out
                have hnb151 := NB215_200.out
                have hnc151 := NB200_215.out
                have hnb152 := NB215_207.out
                have hnc152 := NB207_215.out
                have hnb153 := NB215_245.out
                have hnc153 := NB245_215.out
                have hcz154_0 : wc.cell? ⟨gb215, 0, none⟩ = some (.slice Ao35 t229.length co35) := (blk_cell BK215.out 0).trans rfl
                have hcz154_1 : wc.cell? ⟨gb215, 1, none⟩ = some (.slice Ao40 t230.length co40) := (blk_cell BK215.out 1).trans rfl
                have hfz154_0 := blk_frozen BK215.out 0
                have hfz154_1 := blk_frozen BK215.out 1
                go_wp2_with (first | ((with_reducible refine gate_callee (f := 20) rfl ?_); refine goesL_ (some 90) rfl rfl Try.func20 (by kernel_rfl) rfl #[.agg #[.slice Ao35 t229.length co35, .slice Ao40 t230.length co40], .int .i64 1] rfl (by (try simp only [List.map_toArray, List.map_cons, List.map_nil]); first | done | rfl | (simp only [List.length_drop, List.length_take]; rfl)) ?_; (with_reducible refine (laws_heldFlight.calls kj100 _ _ t229 _ _ t230 1 t247 _ ?side1 ?side2 ?side3 ?side4 A147.out).mono ?_); (case side1 => exact xd ((Kd.R_reads' HO_216000.out).2.2)); (case side2 => exact (Kd.R_reads' HO_216000.out).2.1); (case side3 => exact xd ((Kd.R_reads' HO_216001.out).2.2)); (case side4 => exact (Kd.R_reads' HO_216001.out).2.1); rintro e w155 ⟨rfl, hb⟩; refine ⟨_, rfl, ?_⟩; replace HO_201000 := xq HO_201000 hb; replace HO_201001 := xq HO_201001 hb; replace HO_208000 := xq HO_208000 hb; replace HO_208001 := xq HO_208001 hb; replace HO_216000 := xq HO_216000 hb; replace HO_216001 := xq HO_216001 hb; replace HO_246000 := xq HO_246000 hb; replace HO_246001 := xq HO_246001 hb; replace BK185 := xk BK185 hb; replace BK200 := xk BK200 hb; replace BK207 := xk BK207 hb; replace BK215 := xk BK215 hb; replace BK245 := xk BK245 hb; replace HB := xp HB hb; (try clear hb); (try clear hb2); (try clear hk); (try clear hi)))
                go_ret
                exact ⟨by first | rfl | (simp [errW_none, errW_some] <;> rfl) | (simp [*, errW_none, errW_some] <;> rfl), by repeat (first | (with_reducible first | exact HB.out | apply below_alloc | apply pw_below_drewN | apply below_drew1 | refine below_set ?_ GE185.out | refine below_set ?_ GE200.out | refine below_set ?_ GE207.out | refine below_set ?_ GE215.out | refine below_set ?_ GE245.out) | exact HB.out)⟩
               ·rw [if_neg c149] at H
                have c149b0 : (t247 == t228) = false := beq_eq_false_iff_ne.mpr c149
                have c149b1 : (t247 != t228) = true := bne_iff_ne.mpr c149
                exact absurd H (by simp)
          ·rw [if_neg c98] at H
           have c98b0 : (t231 == t228) = false := beq_eq_false_iff_ne.mpr c98
           have c98b1 : (t231 != t228) = true := bne_iff_ne.mpr c98
           exact absurd H (by simp)
     ·replace c62 := Bool.eq_false_iff.mpr c62
      subst c62
      have H1 : (some false) = some true := by first | (rw [if_neg (show ¬ (false = true) by decide)] at H; exact H) | rfl
      clear H
      have H := H1
      clear H1
      exact absurd H (by simp)

end Go.Proofs.Ytmedapafllmhjaa.PFnExactReverseFlight

/- Lean functions of the Go functions that the law FnExactRunShips reaches, and the proofs that the calls come to what they say (made by program). -/
import Derived.Test.YtmedapafllmhjaaDoorAb
import Derived.Test.YtmedapafllmhjaaDoorPFnExactRunShipsx0
import Derived.Test.YtmedapafllmhjaaDoorPFnExactRunShipsx1
import Derived.Test.YtmedapafllmhjaaDoorPFnExactRunShipsx2
import Derived.Test.YtmedapafllmhjaaDoorPFnExactRunShipsx4
import Derived.Test.YtmedapafllmhjaaDoorPFnExactRunShipsx6
namespace Go.Proofs.YtmedapafllmhjaaDoor.PFnExactRunShips
open Go.RowKit Go.Proofs.YtmedapafllmhjaaDoorW.PrintWords Go.Proofs.YtmedapafllmhjaaDoorW.PrintLast Go.Proofs.YtmedapafllmhjaaDoorW.PrintMore Go.Proofs.YtmedapafllmhjaaDoor.Ab
attribute [local go_sem] max2_int min2_int max_two min_two max_three min_three max_four min_four   -- for this text's walks alone
set_option linter.unusedVariables false
set_option linter.unusedSimpArgs false

/-! ### laws_FnExactRunShips: function 7 -/
mutual
def laws_FnExactRunShips.j0 : Nat → ByteArray → Bool → Bool → Bool → List Int → List Bool → List Int → List Bool → List Int → List Bool → List Int → List Bool → Option (Bool)
  | 0, _, _, _, _, _, _, _, _, _, _, _, _ => none
  | k + 1, x1, x7, x10, x47, x192000, x192001, x207000, x207001, x214000, x214001, x222000, x222001 => if x47 = true then (some false) else ((laws_toFlight.f k x192000 x192001).bind fun bt223 => ((laws_eqFlight.f k x214000 x214001 bt223.1 bt223.2).bind fun t229 => (if t229 = true then ((laws_markFlight.f k x214000 x214001 1).bind fun bt230 => (if bt230.1 < 0 then (laws_FnExactRunShips.j1 k x1 x7 true x192000 x192001 x207000 x207001 x222000 x222001) else ((laws_eqFlight.f k x222000 x222001 x207000 x207001).bind fun t233 => (if t233 = true then (laws_FnExactRunShips.j1 k x1 x7 (x10 != x7) x192000 x192001 x207000 x207001 x222000 x222001) else (laws_FnExactRunShips.j1 k x1 x7 true x192000 x192001 x207000 x207001 x222000 x222001))))) else (some false))))
def laws_FnExactRunShips.j1 : Nat → ByteArray → Bool → Bool → List Int → List Bool → List Int → List Bool → List Int → List Bool → Option (Bool)
  | 0, _, _, _, _, _, _, _, _, _ => none
  | k + 1, x1, x7, x68, x192000, x192001, x207000, x207001, x222000, x222001 => if x68 = true then (some false) else ((laws_markFlight.f k x222000 x222001 1).bind fun bt234 => ((laws_heldFlight.f k bt234.2.1 bt234.2.2 1).bind fun t237 => (if t237 < 0 then (some false) else (if t237 = bt234.1 then ((laws_toFlight.f k x192000 x192001).bind fun bt238 => ((impl_RunShips.f bt238.1 bt238.2 x1).bind fun bt244 => ((laws_eqFlight.f k bt244.1 bt244.2.1 x207000 x207001).bind fun t252 => (if t252 = true then (laws_FnExactRunShips.j2 k bt234.1 (bt244.2.2 != x7) bt234.2.1 bt234.2.2) else (laws_FnExactRunShips.j2 k bt234.1 true bt234.2.1 bt234.2.2))))) else (some false)))))
def laws_FnExactRunShips.j2 : Nat → Int → Bool → List Int → List Bool → Option (Bool)
  | 0, _, _, _, _ => none
  | k + 1, x12, x95, x222000, x222001 => if x95 = true then (some false) else ((laws_heldFlight.f k x222000 x222001 1).bind fun t253 => (if t253 < 0 then (some false) else (if t253 = x12 then (some true) else (some false))))
end
def laws_FnExactRunShips.f (k : Nat) (l0_0 : List Int) (l0_1 : List Bool) (a1 : ByteArray) : Option (Bool) := if (a1.size : Int) > 1048576 then (some true) else ((laws_szFlight.f l0_0 l0_1 1048576).bind fun t192 => (if t192 < 0 then (some true) else ((laws_toFlight.f k l0_0 l0_1).bind fun bt193 => ((spec_RunShips.f k bt193.1 bt193.2 a1).bind fun bt199 => ((laws_toFlight.f k l0_0 l0_1).bind fun bt207 => ((impl_RunShips.f bt207.1 bt207.2 a1).bind fun bt214 => ((laws_eqFlight.f k bt214.1 bt214.2.1 bt199.1 bt199.2.1).bind fun t222 => (if t222 = true then (laws_FnExactRunShips.j0 k a1 bt199.2.2 bt214.2.2 (bt214.2.2 != bt199.2.2) l0_0 l0_1 bt199.1 bt199.2.1 bt207.1 bt207.2 bt214.1 bt214.2.1) else (laws_FnExactRunShips.j0 k a1 bt199.2.2 bt214.2.2 true l0_0 l0_1 bt199.1 bt199.2.1 bt207.1 bt207.2 bt214.1 bt214.2.1)))))))))
theorem laws_FnExactRunShips.mono_l : ∀ k, (∀ y0 y1 y2 y3 y4 y5 y6 y7 y8 y9 y10 y11, LeO (laws_FnExactRunShips.j0 k y0 y1 y2 y3 y4 y5 y6 y7 y8 y9 y10 y11) (laws_FnExactRunShips.j0 (k + 1) y0 y1 y2 y3 y4 y5 y6 y7 y8 y9 y10 y11)) ∧ (∀ y0 y1 y2 y3 y4 y5 y6 y7 y8, LeO (laws_FnExactRunShips.j1 k y0 y1 y2 y3 y4 y5 y6 y7 y8) (laws_FnExactRunShips.j1 (k + 1) y0 y1 y2 y3 y4 y5 y6 y7 y8)) ∧ (∀ y0 y1 y2 y3, LeO (laws_FnExactRunShips.j2 k y0 y1 y2 y3) (laws_FnExactRunShips.j2 (k + 1) y0 y1 y2 y3))
 | 0 => ⟨fun _ _ _ _ _ _ _ _ _ _ _ _ r h => by simp [laws_FnExactRunShips.j0] at h, fun _ _ _ _ _ _ _ _ _ r h => by simp [laws_FnExactRunShips.j1] at h, fun _ _ _ _ r h => by simp [laws_FnExactRunShips.j2] at h⟩
 | k + 1 => by
  obtain ⟨ih0, ih1, ih2⟩ := laws_FnExactRunShips.mono_l k
  refine ⟨?_, ?_, ?_⟩
  ·intro y0 y1 y2 y3 y4 y5 y6 y7 y8 y9 y10 y11
   unfold laws_FnExactRunShips.j0
   repeat' first
   | (with_reducible exact ih0 _ _ _ _ _ _ _ _ _ _ _ _)
   | (with_reducible exact ih1 _ _ _ _ _ _ _ _ _)
   | (with_reducible exact ih2 _ _ _ _)
   | (with_reducible exact laws_eqFlight.mono _ _ _ _ _)
   | (with_reducible exact laws_heldFlight.mono _ _ _ _)
   | (with_reducible exact laws_markFlight.mono _ _ _ _)
   | (with_reducible exact laws_toFlight.mono _ _ _)
   | (with_reducible exact spec_RunShips.mono _ _ _ _)
   | (with_reducible exact LeO.refl _)
   | (with_reducible exact LeO.none _)
   | (with_reducible refine LeO.ite ?_ ?_)
   | (with_reducible refine LeO.bind ?_ (fun _ => ?_))
   | exact ih0 _ _ _ _ _ _ _ _ _ _ _ _
   | exact ih1 _ _ _ _ _ _ _ _ _
   | exact ih2 _ _ _ _
   | exact laws_eqFlight.mono _ _ _ _ _
   | exact laws_heldFlight.mono _ _ _ _
   | exact laws_markFlight.mono _ _ _ _
   | exact laws_toFlight.mono _ _ _
   | exact spec_RunShips.mono _ _ _ _
   | exact LeO.none _
   | refine LeO.ite ?_ ?_
   | refine LeO.bind ?_ (fun _ => ?_)
  ·intro y0 y1 y2 y3 y4 y5 y6 y7 y8
   unfold laws_FnExactRunShips.j1
   repeat' first
   | (with_reducible exact ih0 _ _ _ _ _ _ _ _ _ _ _ _)
   | (with_reducible exact ih1 _ _ _ _ _ _ _ _ _)
   | (with_reducible exact ih2 _ _ _ _)
   | (with_reducible exact laws_eqFlight.mono _ _ _ _ _)
   | (with_reducible exact laws_heldFlight.mono _ _ _ _)
   | (with_reducible exact laws_markFlight.mono _ _ _ _)
   | (with_reducible exact laws_toFlight.mono _ _ _)
   | (with_reducible exact spec_RunShips.mono _ _ _ _)
   | (with_reducible exact LeO.refl _)
   | (with_reducible exact LeO.none _)
   | (with_reducible refine LeO.ite ?_ ?_)
   | (with_reducible refine LeO.bind ?_ (fun _ => ?_))
   | exact ih0 _ _ _ _ _ _ _ _ _ _ _ _
   | exact ih1 _ _ _ _ _ _ _ _ _
   | exact ih2 _ _ _ _
   | exact laws_eqFlight.mono _ _ _ _ _
   | exact laws_heldFlight.mono _ _ _ _
   | exact laws_markFlight.mono _ _ _ _
   | exact laws_toFlight.mono _ _ _
   | exact spec_RunShips.mono _ _ _ _
   | exact LeO.none _
   | refine LeO.ite ?_ ?_
   | refine LeO.bind ?_ (fun _ => ?_)
  ·intro y0 y1 y2 y3
   unfold laws_FnExactRunShips.j2
   repeat' first
   | (with_reducible exact ih0 _ _ _ _ _ _ _ _ _ _ _ _)
   | (with_reducible exact ih1 _ _ _ _ _ _ _ _ _)
   | (with_reducible exact ih2 _ _ _ _)
   | (with_reducible exact laws_eqFlight.mono _ _ _ _ _)
   | (with_reducible exact laws_heldFlight.mono _ _ _ _)
   | (with_reducible exact laws_markFlight.mono _ _ _ _)
   | (with_reducible exact laws_toFlight.mono _ _ _)
   | (with_reducible exact spec_RunShips.mono _ _ _ _)
   | (with_reducible exact LeO.refl _)
   | (with_reducible exact LeO.none _)
   | (with_reducible refine LeO.ite ?_ ?_)
   | (with_reducible refine LeO.bind ?_ (fun _ => ?_))
   | exact ih0 _ _ _ _ _ _ _ _ _ _ _ _
   | exact ih1 _ _ _ _ _ _ _ _ _
   | exact ih2 _ _ _ _
   | exact laws_eqFlight.mono _ _ _ _ _
   | exact laws_heldFlight.mono _ _ _ _
   | exact laws_markFlight.mono _ _ _ _
   | exact laws_toFlight.mono _ _ _
   | exact spec_RunShips.mono _ _ _ _
   | exact LeO.none _
   | refine LeO.ite ?_ ?_
   | refine LeO.bind ?_ (fun _ => ?_)
theorem laws_FnExactRunShips.mono : ∀ a0 a1 a2 k, LeO (laws_FnExactRunShips.f k a0 a1 a2) (laws_FnExactRunShips.f (k + 1) a0 a1 a2) := by
 intro a0 a1 a2 k
 obtain ⟨ih0, ih1, ih2⟩ := laws_FnExactRunShips.mono_l k
 unfold laws_FnExactRunShips.f
 repeat' first
   | (with_reducible exact ih0 _ _ _ _ _ _ _ _ _ _ _ _)
   | (with_reducible exact ih1 _ _ _ _ _ _ _ _ _)
   | (with_reducible exact ih2 _ _ _ _)
   | (with_reducible exact laws_eqFlight.mono _ _ _ _ _)
   | (with_reducible exact laws_heldFlight.mono _ _ _ _)
   | (with_reducible exact laws_markFlight.mono _ _ _ _)
   | (with_reducible exact laws_toFlight.mono _ _ _)
   | (with_reducible exact spec_RunShips.mono _ _ _ _)
   | (with_reducible exact LeO.refl _)
   | (with_reducible exact LeO.none _)
   | (with_reducible refine LeO.ite ?_ ?_)
   | (with_reducible refine LeO.bind ?_ (fun _ => ?_))
   | exact ih0 _ _ _ _ _ _ _ _ _ _ _ _
   | exact ih1 _ _ _ _ _ _ _ _ _
   | exact ih2 _ _ _ _
   | exact laws_eqFlight.mono _ _ _ _ _
   | exact laws_heldFlight.mono _ _ _ _
   | exact laws_markFlight.mono _ _ _ _
   | exact laws_toFlight.mono _ _ _
   | exact spec_RunShips.mono _ _ _ _
   | exact LeO.none _
   | refine LeO.ite ?_ ?_
   | refine LeO.bind ?_ (fun _ => ?_)
set_option maxHeartbeats 8000000 in
set_option maxRecDepth 100000 in
theorem laws_FnExactRunShips.calls (k : Nat) (A0_0 : Option Addr) (c0_0 : Nat) (l0_0 : List Int) (A0_1 : Option Addr) (c0_1 : Nat) (l0_1 : List Bool) (a1 : ByteArray) (w : World) (hr0_0 : Kd.C (Kd.int .i64) w A0_0 l0_0.length l0_0) (hc0_0 : l0_0.length ≤ c0_0) (hr0_1 : Kd.C Kd.bool w A0_1 l0_1.length l0_1) (hc0_1 : l0_1.length ≤ c0_1) (h : laws_FnExactRunShips.f k l0_0 l0_1 a1 = some true) :
  Calls Tryd.prog 7 #[.agg #[.slice A0_0 l0_0.length c0_0, .slice A0_1 l0_1.length c0_1], .string a1] w fun e w' => e = .returned (.bool true) ∧ Below w.heap.size w w' := by
 have hu26 := Tryd.underlying26
 have hu30 := Tryd.underlying30
 have HR0_0 := Aside0.mk hr0_0
 have HC0_0 := Aside0.mk hc0_0
 clear hr0_0 hc0_0
 have HR0_1 := Aside0.mk hr0_1
 have HC0_1 := Aside0.mk hc0_1
 clear hr0_1 hc0_1
 have HB := Aside0.mk (Below.refl w.heap.size w)
 have H : (if (a1.size : Int) > 1048576 then (some true) else ((laws_szFlight.f l0_0 l0_1 1048576).bind fun t192 => (if t192 < 0 then (some true) else ((laws_toFlight.f k l0_0 l0_1).bind fun bt193 => ((spec_RunShips.f k bt193.1 bt193.2 a1).bind fun bt199 => ((laws_toFlight.f k l0_0 l0_1).bind fun bt207 => ((impl_RunShips.f bt207.1 bt207.2 a1).bind fun bt214 => ((laws_eqFlight.f k bt214.1 bt214.2.1 bt199.1 bt199.2.1).bind fun t222 => (if t222 = true then (laws_FnExactRunShips.j0 k a1 bt199.2.2 bt214.2.2 (bt214.2.2 != bt199.2.2) l0_0 l0_1 bt199.1 bt199.2.1 bt207.1 bt207.2 bt214.1 bt214.2.1) else (laws_FnExactRunShips.j0 k a1 bt199.2.2 bt214.2.2 true l0_0 l0_1 bt199.1 bt199.2.1 bt207.1 bt207.2 bt214.1 bt214.2.1)))))))))) = some true := h
 clear h
 by_cases c3 : (a1.size : Int) > 1048576
 ·rw [if_pos c3] at H
  have c3b0 : decide (1048576 < (a1.size : Int)) = true := decide_eq_true c3
  have c3b1 : decide (1048576 < a1.size) = true := decide_eq_true (by omega)
  clear c3
  clear H
  go_enter Tryd.func7, Tryd.ntmps7
  go_wp2_with (first | ((with_reducible refine gate_dst (N := 2) rfl ?_); refine box_event ?hg (N := 2) ?hd (cs := #[.slice A0_0 l0_0.length c0_0, .slice A0_1 l0_1.length c0_1]) (t := 26) ?hr ?_; (case hd => rfl); (case hg => rfl); (case hr => first | (go_simp; done) | (go_simp; rfl)); intro gb191 hg w4 hbox hb; have BK191 := Aside0.mk (hbox); have GW191 := xg HB hg; have GE191 := xg HB hg; replace HB := xp HB hb; clear hb hbox hg))
  go_ret
  exact ⟨by first | rfl | (simp [errW_none, errW_some] <;> rfl) | (simp [*, errW_none, errW_some] <;> rfl), by repeat (first | (with_reducible first | exact HB.out | apply below_alloc | apply pw_below_drewN | apply below_drew1 | refine below_set ?_ GE191.out) | exact HB.out)⟩
 ·rw [if_neg c3] at H
  have c3b0 : decide (1048576 < (a1.size : Int)) = false := decide_eq_false c3
  have c3b1 : decide (1048576 < a1.size) = false := decide_eq_false (by omega)
  clear c3
  replace H := Option.bind_eq_some_iff.mp H
  obtain ⟨t192, A50, H⟩ := H
  replace H : (if t192 < 0 then (some true) else ((laws_toFlight.f k l0_0 l0_1).bind fun bt193 => ((spec_RunShips.f k bt193.1 bt193.2 a1).bind fun bt199 => ((laws_toFlight.f k l0_0 l0_1).bind fun bt207 => ((impl_RunShips.f bt207.1 bt207.2 a1).bind fun bt214 => ((laws_eqFlight.f k bt214.1 bt214.2.1 bt199.1 bt199.2.1).bind fun t222 => (if t222 = true then (laws_FnExactRunShips.j0 k a1 bt199.2.2 bt214.2.2 (bt214.2.2 != bt199.2.2) l0_0 l0_1 bt199.1 bt199.2.1 bt207.1 bt207.2 bt214.1 bt214.2.1) else (laws_FnExactRunShips.j0 k a1 bt199.2.2 bt214.2.2 true l0_0 l0_1 bt199.1 bt199.2.1 bt207.1 bt207.2 bt214.1 bt214.2.1)))))))) = some true := H
  have A5 := Aside0.mk A50
  clear A50
  by_cases c6 : t192 < 0
  ·rw [if_pos c6] at H
   have c6b0 : decide (t192 < 0) = true := decide_eq_true c6
   clear c6
   clear H
   go_enter Tryd.func7, Tryd.ntmps7
   go_wp2_with (first | ((with_reducible refine gate_dst (N := 2) rfl ?_); refine box_event ?hg (N := 2) ?hd (cs := #[.slice A0_0 l0_0.length c0_0, .slice A0_1 l0_1.length c0_1]) (t := 26) ?hr ?_; (case hd => rfl); (case hg => rfl); (case hr => first | (go_simp; done) | (go_simp; rfl)); intro gb191 hg w7 hbox hb; have BK191 := Aside0.mk (hbox); have GW191 := xg HB hg; have GE191 := xg HB hg; replace HB := xp HB hb; clear hb hbox hg; have hcz8_0 : w7.cell? ⟨gb191, 0, none⟩ = some (.slice A0_0 l0_0.length c0_0) := (blk_cell BK191.out 0).trans rfl; have hcz8_1 : w7.cell? ⟨gb191, 1, none⟩ = some (.slice A0_1 l0_1.length c0_1) := (blk_cell BK191.out 1).trans rfl; have hfz8_0 := blk_frozen BK191.out 0; have hfz8_1 := blk_frozen BK191.out 1) | ((with_reducible refine gate_callee (f := 10) rfl ?_); refine goesL_ (some 21) rfl rfl Tryd.func10 (by kernel_rfl) rfl #[.agg #[.slice A0_0 l0_0.length c0_0, .slice A0_1 l0_1.length c0_1], .int .i64 1048576] rfl (by (try simp only [List.map_toArray, List.map_cons, List.map_nil]); first | done | rfl | (simp only [List.length_drop, List.length_take]; rfl)) ?_; (with_reducible refine (laws_szFlight.calls _ _ l0_0 _ _ l0_1 1048576 t192 _ ?side1 ?side2 ?side3 ?side4 A5.out).mono ?_); (case side1 => exact xd ((Kd.C_below HR0_0.out HB.out))); (case side2 => exact HC0_0.out); (case side3 => exact xd ((Kd.C_below HR0_1.out HB.out))); (case side4 => exact HC0_1.out); rintro e w9 ⟨rfl, hb⟩; refine ⟨_, rfl, ?_⟩; replace BK191 := xk BK191 hb; replace HB := xp HB hb; (try clear hb); (try clear hb2); (try clear hk); (try clear hi)))
   go_ret
   exact ⟨by first | rfl | (simp [errW_none, errW_some] <;> rfl) | (simp [*, errW_none, errW_some] <;> rfl), by repeat (first | (with_reducible first | exact HB.out | apply below_alloc | apply pw_below_drewN | apply below_drew1 | refine below_set ?_ GE191.out) | exact HB.out)⟩
  ·rw [if_neg c6] at H
   have c6b0 : decide (t192 < 0) = false := decide_eq_false c6
   clear c6
   replace H := Option.bind_eq_some_iff.mp H
   obtain ⟨⟨t193, t196⟩, A100, H⟩ := H
   replace H : ((spec_RunShips.f k t193 t196 a1).bind fun bt199 => ((laws_toFlight.f k l0_0 l0_1).bind fun bt207 => ((impl_RunShips.f bt207.1 bt207.2 a1).bind fun bt214 => ((laws_eqFlight.f k bt214.1 bt214.2.1 bt199.1 bt199.2.1).bind fun t222 => (if t222 = true then (laws_FnExactRunShips.j0 k a1 bt199.2.2 bt214.2.2 (bt214.2.2 != bt199.2.2) l0_0 l0_1 bt199.1 bt199.2.1 bt207.1 bt207.2 bt214.1 bt214.2.1) else (laws_FnExactRunShips.j0 k a1 bt199.2.2 bt214.2.2 true l0_0 l0_1 bt199.1 bt199.2.1 bt207.1 bt207.2 bt214.1 bt214.2.1)))))) = some true := H
   have A10 := Aside0.mk A100
   clear A100
   replace H := Option.bind_eq_some_iff.mp H
   obtain ⟨⟨t199, t202, t205⟩, A110, H⟩ := H
   replace H : ((laws_toFlight.f k l0_0 l0_1).bind fun bt207 => ((impl_RunShips.f bt207.1 bt207.2 a1).bind fun bt214 => ((laws_eqFlight.f k bt214.1 bt214.2.1 t199 t202).bind fun t222 => (if t222 = true then (laws_FnExactRunShips.j0 k a1 t205 bt214.2.2 (bt214.2.2 != t205) l0_0 l0_1 t199 t202 bt207.1 bt207.2 bt214.1 bt214.2.1) else (laws_FnExactRunShips.j0 k a1 t205 bt214.2.2 true l0_0 l0_1 t199 t202 bt207.1 bt207.2 bt214.1 bt214.2.1))))) = some true := H
   have A11 := Aside0.mk A110
   clear A110
   replace H := Option.bind_eq_some_iff.mp H
   obtain ⟨⟨t207, t210⟩, A120, H⟩ := H
   replace H : ((impl_RunShips.f t207 t210 a1).bind fun bt214 => ((laws_eqFlight.f k bt214.1 bt214.2.1 t199 t202).bind fun t222 => (if t222 = true then (laws_FnExactRunShips.j0 k a1 t205 bt214.2.2 (bt214.2.2 != t205) l0_0 l0_1 t199 t202 t207 t210 bt214.1 bt214.2.1) else (laws_FnExactRunShips.j0 k a1 t205 bt214.2.2 true l0_0 l0_1 t199 t202 t207 t210 bt214.1 bt214.2.1)))) = some true := H
   have A12 := Aside0.mk A120
   clear A120
   replace H := Option.bind_eq_some_iff.mp H
   obtain ⟨⟨t214, t217, t220⟩, A130, H⟩ := H
   replace H : ((laws_eqFlight.f k t214 t217 t199 t202).bind fun t222 => (if t222 = true then (laws_FnExactRunShips.j0 k a1 t205 t220 (t220 != t205) l0_0 l0_1 t199 t202 t207 t210 t214 t217) else (laws_FnExactRunShips.j0 k a1 t205 t220 true l0_0 l0_1 t199 t202 t207 t210 t214 t217))) = some true := H
   have A13 := Aside0.mk A130
   clear A130
   have HC14 := Aside0.mk H
   clear H
   go_enter Tryd.func7, Tryd.ntmps7
   go_upto_region 10 with (first | ((with_reducible refine gate_dst (N := 2) rfl ?_); refine box_event ?hg (N := 2) ?hd (cs := #[.slice A0_0 l0_0.length c0_0, .slice A0_1 l0_1.length c0_1]) (t := 26) ?hr ?_; (case hd => rfl); (case hg => rfl); (case hr => first | (go_simp; done) | (go_simp; rfl)); intro gb191 hg w15 hbox hb; have BK191 := Aside0.mk (hbox); have GW191 := xg HB hg; have GE191 := xg HB hg; replace HB := xp HB hb; clear hb hbox hg; have hcz16_0 : w15.cell? ⟨gb191, 0, none⟩ = some (.slice A0_0 l0_0.length c0_0) := (blk_cell BK191.out 0).trans rfl; have hcz16_1 : w15.cell? ⟨gb191, 1, none⟩ = some (.slice A0_1 l0_1.length c0_1) := (blk_cell BK191.out 1).trans rfl; have hfz16_0 := blk_frozen BK191.out 0; have hfz16_1 := blk_frozen BK191.out 1) | ((with_reducible refine gate_callee (f := 10) rfl ?_); refine goesL_ (some 21) rfl rfl Tryd.func10 (by kernel_rfl) rfl #[.agg #[.slice A0_0 l0_0.length c0_0, .slice A0_1 l0_1.length c0_1], .int .i64 1048576] rfl (by (try simp only [List.map_toArray, List.map_cons, List.map_nil]); first | done | rfl | (simp only [List.length_drop, List.length_take]; rfl)) ?_; (with_reducible refine (laws_szFlight.calls _ _ l0_0 _ _ l0_1 1048576 t192 _ ?side1 ?side2 ?side3 ?side4 A5.out).mono ?_); (case side1 => exact xd ((Kd.C_below HR0_0.out HB.out))); (case side2 => exact HC0_0.out); (case side3 => exact xd ((Kd.C_below HR0_1.out HB.out))); (case side4 => exact HC0_1.out); rintro e w17 ⟨rfl, hb⟩; refine ⟨_, rfl, ?_⟩; replace BK191 := xk BK191 hb; replace HB := xp HB hb; (try clear hb); (try clear hb2); (try clear hk); (try clear hi); have hcz18_0 : w17.cell? ⟨gb191, 0, none⟩ = some (.slice A0_0 l0_0.length c0_0) := (blk_cell BK191.out 0).trans rfl; have hcz18_1 : w17.cell? ⟨gb191, 1, none⟩ = some (.slice A0_1 l0_1.length c0_1) := (blk_cell BK191.out 1).trans rfl; have hfz18_0 := blk_frozen BK191.out 0; have hfz18_1 := blk_frozen BK191.out 1) | ((with_reducible refine gate_callee (f := 12) rfl ?_); refine goesL_ (some 26) rfl rfl Tryd.func12 (by kernel_rfl) rfl #[.agg #[.slice A0_0 l0_0.length c0_0, .slice A0_1 l0_1.length c0_1]] rfl (by (try simp only [List.map_toArray, List.map_cons, List.map_nil]); first | done | rfl | (simp only [List.length_drop, List.length_take]; rfl)) ?_; (with_reducible refine (laws_toFlight.calls k _ _ l0_0 _ _ l0_1 t193 t196 _ ?side1 ?side2 ?side3 ?side4 A10.out).mono ?_); (case side1 => exact xd ((Kd.C_below HR0_0.out HB.out))); (case side2 => exact HC0_0.out); (case side3 => exact xd ((Kd.C_below HR0_1.out HB.out))); (case side4 => exact HC0_1.out); rintro e w19 ⟨v194, v197, rfl, ho0, ho1, hb⟩; refine ⟨_, rfl, ?_⟩; have HO195 := Aside0.mk (Kd.R_lower ho0 (below_size (xs HB.out))); have HO198 := Aside0.mk (Kd.R_lower ho1 (below_size (xs HB.out))); replace BK191 := xk BK191 hb; replace HB := xp HB hb; (try clear hb); (try clear hb2); (try clear hk); (try clear hi); (try clear ho0); (try clear ho1); obtain ⟨Ao20, co20, eo20⟩ := Kd.R_slice HO195.out; subst eo20; obtain ⟨Ao21, co21, eo21⟩ := Kd.R_slice HO198.out; subst eo21) | ((with_reducible refine gate_callee (f := 23) rfl ?_); refine goesL_ (some 28) rfl rfl Tryd.func23 (by kernel_rfl) rfl #[.agg #[.slice Ao20 t193.length co20, .slice Ao21 t196.length co21], .string a1] rfl (by (try simp only [List.map_toArray, List.map_cons, List.map_nil]); first | done | rfl | (simp only [List.length_drop, List.length_take]; rfl)) ?_; (with_reducible refine (spec_RunShips.calls k _ _ t193 _ _ t196 a1 t199 t202 t205 _ ?side1 ?side2 ?side3 ?side4 A11.out).mono ?_); (case side1 => exact xd ((Kd.R_reads' HO195.out).2.2)); (case side2 => exact (Kd.R_reads' HO195.out).2.1); (case side3 => exact xd ((Kd.R_reads' HO198.out).2.2)); (case side4 => exact (Kd.R_reads' HO198.out).2.1); rintro e w22 ⟨v200, v203, rfl, ho0, ho1, hb⟩; refine ⟨_, rfl, ?_⟩; have HO201 := Aside0.mk (Kd.R_lower (Kd.R_new' ho0 (Kd.R_lt (xr HO195.out))) (below_size (xs HB.out))); replace HO195 := Aside0.mk (Kd.R_elder' (xr HO195.out) (Kd.R_base ho0) hb); have HO204 := Aside0.mk (Kd.R_lower (Kd.R_new' ho1 (Kd.R_lt (xr HO198.out))) (below_size (xs HB.out))); replace HO198 := Aside0.mk (Kd.R_elder' (xr HO198.out) (Kd.R_base ho1) hb); replace BK191 := xk BK191 hb; replace HB := xp HB hb; (try clear hb); (try clear hb2); (try clear hk); (try clear hi); (try clear ho0); (try clear ho1)) | ((with_reducible refine gate_dst (N := 6) rfl ?_); refine box_event ?hg (N := 6) ?hd (cs := #[.slice none 0 0, .slice none 0 0]) (t := 30) ?hr ?_; (case hd => rfl); (case hg => rfl); (case hr => first | (go_simp; done) | (go_simp; rfl)); intro gb206 hg w23 hbox hb; replace HO195 := xq HO195 hb; replace HO198 := xq HO198 hb; replace HO201 := xq HO201 hb; replace HO204 := xq HO204 hb; have BK206 := Aside0.mk (hbox); have GW206 := xg HB hg; have GE206 := xg HB hg; replace HB := xp HB hb; have NB191_206 := xl BK191 hg; have NB206_191 := xh BK191 hg; replace BK191 := xk BK191 hb; clear hb hbox hg; obtain ⟨Ao24, co24, eo24⟩ := Kd.R_slice HO201.out; subst eo24; have hnb25 := NB206_191.out; have hnc25 := NB191_206.out; have hcz26_0 : w23.cell? ⟨gb206, 0, none⟩ = some (.slice none 0 0) := (blk_cell BK206.out 0).trans rfl; have hcz26_1 : w23.cell? ⟨gb206, 1, none⟩ = some (.slice none 0 0) := (blk_cell BK206.out 1).trans rfl; have hfz26_0 := blk_frozen BK206.out 0; have hfz26_1 := blk_frozen BK206.out 1; obtain ⟨Ao27, co27, eo27⟩ := Kd.R_slice HO204.out; subst eo27; have hcz28_0 : w23.cell? ⟨gb191, 0, none⟩ = some (.slice A0_0 l0_0.length c0_0) := (blk_cell BK191.out 0).trans rfl; have hcz28_1 : w23.cell? ⟨gb191, 1, none⟩ = some (.slice A0_1 l0_1.length c0_1) := (blk_cell BK191.out 1).trans rfl; have hfz28_0 := blk_frozen BK191.out 0; have hfz28_1 := blk_frozen BK191.out 1) | ((with_reducible refine gate_callee (f := 12) rfl ?_); refine goesL_ (some 32) rfl rfl Tryd.func12 (by kernel_rfl) rfl #[.agg #[.slice A0_0 l0_0.length c0_0, .slice A0_1 l0_1.length c0_1]] rfl (by (try simp only [List.map_toArray, List.map_cons, List.map_nil]); first | done | rfl | (simp only [List.length_drop, List.length_take]; rfl)) ?_; (with_reducible refine (laws_toFlight.calls k _ _ l0_0 _ _ l0_1 t207 t210 _ ?side1 ?side2 ?side3 ?side4 A12.out).mono ?_); (case side1 => exact Kd.C_below HR0_0.out (xs HB.out)); (case side2 => exact HC0_0.out); (case side3 => exact Kd.C_below HR0_1.out (xs HB.out)); (case side4 => exact HC0_1.out); rintro e w29 ⟨v208, v211, rfl, ho0, ho1, hb⟩; refine ⟨_, rfl, ?_⟩; have HO209 := Aside0.mk (Kd.R_lower (Kd.R_new' (Kd.R_new' ho0 (Kd.R_lt (by (with_reducible repeat (first | apply Kd.R_alloc | apply Kd.R_drewN | apply Kd.R_drew)); exact (Kd.R_mono (Kd.R_far (p := ⟨gb206, 1, none⟩) (Kd.R_far (p := ⟨gb206, 0, none⟩) (Kd.R_types HO195.out BK206.out (by decide)) (fun _ hk => hk.2) (.slice Ao24 t199.length co24)) (fun _ hk => hk.2) (.slice Ao27 t202.length co27)) (fun _ h_ => h_.1))))) (Kd.R_lt (by (with_reducible repeat (first | apply Kd.R_alloc | apply Kd.R_drewN | apply Kd.R_drew)); exact (Kd.R_mono (Kd.R_far (p := ⟨gb206, 1, none⟩) (Kd.R_far (p := ⟨gb206, 0, none⟩) (Kd.R_types HO201.out BK206.out (by decide)) (fun _ hk => hk.2) (.slice Ao24 t199.length co24)) (fun _ hk => hk.2) (.slice Ao27 t202.length co27)) (fun _ h_ => h_.1))))) (below_size (xs HB.out))); replace HO195 := Aside0.mk (Kd.R_elder' (by (with_reducible repeat (first | apply Kd.R_alloc | apply Kd.R_drewN | apply Kd.R_drew)); exact (Kd.R_mono (Kd.R_far (p := ⟨gb206, 1, none⟩) (Kd.R_far (p := ⟨gb206, 0, none⟩) (Kd.R_types HO195.out BK206.out (by decide)) (fun _ hk => hk.2) (.slice Ao24 t199.length co24)) (fun _ hk => hk.2) (.slice Ao27 t202.length co27)) (fun _ h_ => h_.1))) (Kd.R_base ho0) hb); replace HO201 := Aside0.mk (Kd.R_elder' (by (with_reducible repeat (first | apply Kd.R_alloc | apply Kd.R_drewN | apply Kd.R_drew)); exact (Kd.R_mono (Kd.R_far (p := ⟨gb206, 1, none⟩) (Kd.R_far (p := ⟨gb206, 0, none⟩) (Kd.R_types HO201.out BK206.out (by decide)) (fun _ hk => hk.2) (.slice Ao24 t199.length co24)) (fun _ hk => hk.2) (.slice Ao27 t202.length co27)) (fun _ h_ => h_.1))) (Kd.R_base ho0) hb); have HO212 := Aside0.mk (Kd.R_lower (Kd.R_new' (Kd.R_new' ho1 (Kd.R_lt (by (with_reducible repeat (first | apply Kd.R_alloc | apply Kd.R_drewN | apply Kd.R_drew)); exact (Kd.R_mono (Kd.R_far (p := ⟨gb206, 1, none⟩) (Kd.R_far (p := ⟨gb206, 0, none⟩) (Kd.R_types HO198.out BK206.out (by decide)) (fun _ hk => hk.2) (.slice Ao24 t199.length co24)) (fun _ hk => hk.2) (.slice Ao27 t202.length co27)) (fun _ h_ => h_.1))))) (Kd.R_lt (by (with_reducible repeat (first | apply Kd.R_alloc | apply Kd.R_drewN | apply Kd.R_drew)); exact (Kd.R_mono (Kd.R_far (p := ⟨gb206, 1, none⟩) (Kd.R_far (p := ⟨gb206, 0, none⟩) (Kd.R_types HO204.out BK206.out (by decide)) (fun _ hk => hk.2) (.slice Ao24 t199.length co24)) (fun _ hk => hk.2) (.slice Ao27 t202.length co27)) (fun _ h_ => h_.1))))) (below_size (xs HB.out))); replace HO198 := Aside0.mk (Kd.R_elder' (by (with_reducible repeat (first | apply Kd.R_alloc | apply Kd.R_drewN | apply Kd.R_drew)); exact (Kd.R_mono (Kd.R_far (p := ⟨gb206, 1, none⟩) (Kd.R_far (p := ⟨gb206, 0, none⟩) (Kd.R_types HO198.out BK206.out (by decide)) (fun _ hk => hk.2) (.slice Ao24 t199.length co24)) (fun _ hk => hk.2) (.slice Ao27 t202.length co27)) (fun _ h_ => h_.1))) (Kd.R_base ho1) hb); replace HO204 := Aside0.mk (Kd.R_elder' (by (with_reducible repeat (first | apply Kd.R_alloc | apply Kd.R_drewN | apply Kd.R_drew)); exact (Kd.R_mono (Kd.R_far (p := ⟨gb206, 1, none⟩) (Kd.R_far (p := ⟨gb206, 0, none⟩) (Kd.R_types HO204.out BK206.out (by decide)) (fun _ hk => hk.2) (.slice Ao24 t199.length co24)) (fun _ hk => hk.2) (.slice Ao27 t202.length co27)) (fun _ h_ => h_.1))) (Kd.R_base ho1) hb); replace BK191 := Aside0.mk (blk_below (g := gb191) (o := .cells #[.slice A0_0 l0_0.length c0_0, .slice A0_1 l0_1.length c0_1] 26 (0, 0)) (xff NB191_206.out NB191_206.out BK191.out) hb); replace BK206 := Aside0.mk (blk_below (g := gb206) (o := .cells #[.slice Ao24 t199.length co24, .slice Ao27 t202.length co27] 30 (0, 0)) (by (with_reducible repeat (first | refine blk_drewN ?_ _ | refine blk_drew ?_ | refine blk_alloc ?_ _)); refine blk_put (cs := #[.slice Ao24 t199.length co24, .slice none 0 0]) ?_ 1 _ rfl; (with_reducible repeat (first | refine blk_drewN ?_ _ | refine blk_drew ?_ | refine blk_alloc ?_ _)); refine blk_put (cs := #[.slice none 0 0, .slice none 0 0]) ?_ 0 _ rfl; (with_reducible repeat (first | refine blk_drewN ?_ _ | refine blk_drew ?_ | refine blk_alloc ?_ _)); exact BK206.out) hb); replace HB := xp HB hb; (try clear hb); (try clear hb2); (try clear hk); (try clear hi); (try clear ho0); (try clear ho1)) | ((with_reducible refine gate_dst (N := 8) rfl ?_); refine box_event ?hg (N := 8) ?hd (cs := #[.slice none 0 0, .slice none 0 0]) (t := 30) ?hr ?_; (case hd => rfl); (case hg => rfl); (case hr => first | (go_simp; done) | (go_simp; rfl)); intro gb213 hg w30 hbox hb; replace HO195 := xq HO195 hb; replace HO198 := xq HO198 hb; replace HO201 := xq HO201 hb; replace HO204 := xq HO204 hb; replace HO209 := xq HO209 hb; replace HO212 := xq HO212 hb; have BK213 := Aside0.mk (hbox); have GW213 := xg HB hg; have GE213 := xg HB hg; replace HB := xp HB hb; have NB191_213 := xl BK191 hg; have NB213_191 := xh BK191 hg; replace BK191 := xk BK191 hb; have NB206_213 := xl BK206 hg; have NB213_206 := xh BK206 hg; replace BK206 := xk BK206 hb; clear hb hbox hg; obtain ⟨Ao31, co31, eo31⟩ := Kd.R_slice HO209.out; subst eo31; have hnb32 := NB213_191.out; have hnc32 := NB191_213.out; have hnb33 := NB213_206.out; have hnc33 := NB206_213.out; have hcz34_0 : w30.cell? ⟨gb213, 0, none⟩ = some (.slice none 0 0) := (blk_cell BK213.out 0).trans rfl; have hcz34_1 : w30.cell? ⟨gb213, 1, none⟩ = some (.slice none 0 0) := (blk_cell BK213.out 1).trans rfl; have hfz34_0 := blk_frozen BK213.out 0; have hfz34_1 := blk_frozen BK213.out 1; obtain ⟨Ao35, co35, eo35⟩ := Kd.R_slice HO212.out; subst eo35) | ((with_reducible refine gate_callee (f := 24) rfl ?_); refine goesL_ (some 36) rfl rfl Tryd.func24 (by kernel_rfl) rfl #[.agg #[.slice Ao31 t207.length co31, .slice Ao35 t210.length co35], .string a1] rfl (by (try simp only [List.map_toArray, List.map_cons, List.map_nil]); first | done | rfl | (simp only [List.length_drop, List.length_take]; rfl)) ?_; (with_reducible refine (impl_RunShips.calls _ _ t207 _ _ t210 a1 t214 t217 t220 _ ?side1 ?side2 ?side3 ?side4 A13.out).mono ?_); (case side1 => refine (Kd.R_reads' (e := 3) (base := w.heap.size) (ok := fun k_ => ((True ∧ nS k_ Ao20 t193.length co20) ∧ nS k_ Ao24 t199.length co24)) (n := t207.length) (c := co31) ?_).2.2; exact (by (with_reducible repeat (first | apply Kd.R_alloc | apply Kd.R_drewN | apply Kd.R_drew)); exact (Kd.R_mono (Kd.R_far (p := ⟨gb213, 1, none⟩) (Kd.R_far (p := ⟨gb213, 0, none⟩) (Kd.R_types HO209.out BK213.out (by decide)) (fun _ hk => hk.2) (.slice Ao31 t207.length co31)) (fun _ hk => hk.2) (.slice Ao35 t210.length co35)) (fun _ h_ => h_.1)))); (case side2 => exact (Kd.R_reads' HO209.out).2.1); (case side3 => refine (Kd.R_reads' (e := 4) (base := w.heap.size) (ok := fun k_ => ((True ∧ nS k_ Ao21 t196.length co21) ∧ nS k_ Ao27 t202.length co27)) (n := t210.length) (c := co35) ?_).2.2; exact (by (with_reducible repeat (first | apply Kd.R_alloc | apply Kd.R_drewN | apply Kd.R_drew)); exact (Kd.R_mono (Kd.R_far (p := ⟨gb213, 1, none⟩) (Kd.R_far (p := ⟨gb213, 0, none⟩) (Kd.R_types HO212.out BK213.out (by decide)) (fun _ hk => hk.2) (.slice Ao31 t207.length co31)) (fun _ hk => hk.2) (.slice Ao35 t210.length co35)) (fun _ h_ => h_.1)))); (case side4 => exact (Kd.R_reads' HO212.out).2.1); rintro e w36 ⟨v215, v218, rfl, ho0, ho1, hb⟩; refine ⟨_, rfl, ?_⟩; have HO216 := Aside0.mk (Kd.R_lower (Kd.R_new' (Kd.R_new' (Kd.R_new' ho0 (Kd.R_lt (by (with_reducible repeat (first | apply Kd.R_alloc | apply Kd.R_drewN | apply Kd.R_drew)); exact (Kd.R_mono (Kd.R_far (p := ⟨gb213, 1, none⟩) (Kd.R_far (p := ⟨gb213, 0, none⟩) (Kd.R_types HO195.out BK213.out (by decide)) (fun _ hk => hk.2) (.slice Ao31 t207.length co31)) (fun _ hk => hk.2) (.slice Ao35 t210.length co35)) (fun _ h_ => h_.1))))) (Kd.R_lt (by (with_reducible repeat (first | apply Kd.R_alloc | apply Kd.R_drewN | apply Kd.R_drew)); exact (Kd.R_mono (Kd.R_far (p := ⟨gb213, 1, none⟩) (Kd.R_far (p := ⟨gb213, 0, none⟩) (Kd.R_types HO201.out BK213.out (by decide)) (fun _ hk => hk.2) (.slice Ao31 t207.length co31)) (fun _ hk => hk.2) (.slice Ao35 t210.length co35)) (fun _ h_ => h_.1))))) (Kd.R_lt (by (with_reducible repeat (first | apply Kd.R_alloc | apply Kd.R_drewN | apply Kd.R_drew)); exact (Kd.R_mono (Kd.R_far (p := ⟨gb213, 1, none⟩) (Kd.R_far (p := ⟨gb213, 0, none⟩) (Kd.R_types HO209.out BK213.out (by decide)) (fun _ hk => hk.2) (.slice Ao31 t207.length co31)) (fun _ hk => hk.2) (.slice Ao35 t210.length co35)) (fun _ h_ => h_.1))))) (below_size (xs HB.out))); replace HO195 := Aside0.mk (Kd.R_elder' (by (with_reducible repeat (first | apply Kd.R_alloc | apply Kd.R_drewN | apply Kd.R_drew)); exact (Kd.R_mono (Kd.R_far (p := ⟨gb213, 1, none⟩) (Kd.R_far (p := ⟨gb213, 0, none⟩) (Kd.R_types HO195.out BK213.out (by decide)) (fun _ hk => hk.2) (.slice Ao31 t207.length co31)) (fun _ hk => hk.2) (.slice Ao35 t210.length co35)) (fun _ h_ => h_.1))) (Kd.R_base ho0) hb); replace HO201 := Aside0.mk (Kd.R_elder' (by (with_reducible repeat (first | apply Kd.R_alloc | apply Kd.R_drewN | apply Kd.R_drew)); exact (Kd.R_mono (Kd.R_far (p := ⟨gb213, 1, none⟩) (Kd.R_far (p := ⟨gb213, 0, none⟩) (Kd.R_types HO201.out BK213.out (by decide)) (fun _ hk => hk.2) (.slice Ao31 t207.length co31)) (fun _ hk => hk.2) (.slice Ao35 t210.length co35)) (fun _ h_ => h_.1))) (Kd.R_base ho0) hb); replace HO209 := Aside0.mk (Kd.R_elder' (by (with_reducible repeat (first | apply Kd.R_alloc | apply Kd.R_drewN | apply Kd.R_drew)); exact (Kd.R_mono (Kd.R_far (p := ⟨gb213, 1, none⟩) (Kd.R_far (p := ⟨gb213, 0, none⟩) (Kd.R_types HO209.out BK213.out (by decide)) (fun _ hk => hk.2) (.slice Ao31 t207.length co31)) (fun _ hk => hk.2) (.slice Ao35 t210.length co35)) (fun _ h_ => h_.1))) (Kd.R_base ho0) hb); have HO219 := Aside0.mk (Kd.R_lower (Kd.R_new' (Kd.R_new' (Kd.R_new' ho1 (Kd.R_lt (by (with_reducible repeat (first | apply Kd.R_alloc | apply Kd.R_drewN | apply Kd.R_drew)); exact (Kd.R_mono (Kd.R_far (p := ⟨gb213, 1, none⟩) (Kd.R_far (p := ⟨gb213, 0, none⟩) (Kd.R_types HO198.out BK213.out (by decide)) (fun _ hk => hk.2) (.slice Ao31 t207.length co31)) (fun _ hk => hk.2) (.slice Ao35 t210.length co35)) (fun _ h_ => h_.1))))) (Kd.R_lt (by (with_reducible repeat (first | apply Kd.R_alloc | apply Kd.R_drewN | apply Kd.R_drew)); exact (Kd.R_mono (Kd.R_far (p := ⟨gb213, 1, none⟩) (Kd.R_far (p := ⟨gb213, 0, none⟩) (Kd.R_types HO204.out BK213.out (by decide)) (fun _ hk => hk.2) (.slice Ao31 t207.length co31)) (fun _ hk => hk.2) (.slice Ao35 t210.length co35)) (fun _ h_ => h_.1))))) (Kd.R_lt (by (with_reducible repeat (first | apply Kd.R_alloc | apply Kd.R_drewN | apply Kd.R_drew)); exact (Kd.R_mono (Kd.R_far (p := ⟨gb213, 1, none⟩) (Kd.R_far (p := ⟨gb213, 0, none⟩) (Kd.R_types HO212.out BK213.out (by decide)) (fun _ hk => hk.2) (.slice Ao31 t207.length co31)) (fun _ hk => hk.2) (.slice Ao35 t210.length co35)) (fun _ h_ => h_.1))))) (below_size (xs HB.out))); replace HO198 := Aside0.mk (Kd.R_elder' (by (with_reducible repeat (first | apply Kd.R_alloc | apply Kd.R_drewN | apply Kd.R_drew)); exact (Kd.R_mono (Kd.R_far (p := ⟨gb213, 1, none⟩) (Kd.R_far (p := ⟨gb213, 0, none⟩) (Kd.R_types HO198.out BK213.out (by decide)) (fun _ hk => hk.2) (.slice Ao31 t207.length co31)) (fun _ hk => hk.2) (.slice Ao35 t210.length co35)) (fun _ h_ => h_.1))) (Kd.R_base ho1) hb); replace HO204 := Aside0.mk (Kd.R_elder' (by (with_reducible repeat (first | apply Kd.R_alloc | apply Kd.R_drewN | apply Kd.R_drew)); exact (Kd.R_mono (Kd.R_far (p := ⟨gb213, 1, none⟩) (Kd.R_far (p := ⟨gb213, 0, none⟩) (Kd.R_types HO204.out BK213.out (by decide)) (fun _ hk => hk.2) (.slice Ao31 t207.length co31)) (fun _ hk => hk.2) (.slice Ao35 t210.length co35)) (fun _ h_ => h_.1))) (Kd.R_base ho1) hb); replace HO212 := Aside0.mk (Kd.R_elder' (by (with_reducible repeat (first | apply Kd.R_alloc | apply Kd.R_drewN | apply Kd.R_drew)); exact (Kd.R_mono (Kd.R_far (p := ⟨gb213, 1, none⟩) (Kd.R_far (p := ⟨gb213, 0, none⟩) (Kd.R_types HO212.out BK213.out (by decide)) (fun _ hk => hk.2) (.slice Ao31 t207.length co31)) (fun _ hk => hk.2) (.slice Ao35 t210.length co35)) (fun _ h_ => h_.1))) (Kd.R_base ho1) hb); replace BK191 := Aside0.mk (blk_below (g := gb191) (o := .cells #[.slice A0_0 l0_0.length c0_0, .slice A0_1 l0_1.length c0_1] 26 (0, 0)) (xff NB191_213.out NB191_213.out BK191.out) hb); replace BK206 := Aside0.mk (blk_below (g := gb206) (o := .cells #[.slice Ao24 t199.length co24, .slice Ao27 t202.length co27] 30 (0, 0)) (xff NB206_213.out NB206_213.out BK206.out) hb); replace BK213 := Aside0.mk (blk_below (g := gb213) (o := .cells #[.slice Ao31 t207.length co31, .slice Ao35 t210.length co35] 30 (0, 0)) (by (with_reducible repeat (first | refine blk_drewN ?_ _ | refine blk_drew ?_ | refine blk_alloc ?_ _)); refine blk_put (cs := #[.slice Ao31 t207.length co31, .slice none 0 0]) ?_ 1 _ rfl; (with_reducible repeat (first | refine blk_drewN ?_ _ | refine blk_drew ?_ | refine blk_alloc ?_ _)); refine blk_put (cs := #[.slice none 0 0, .slice none 0 0]) ?_ 0 _ rfl; (with_reducible repeat (first | refine blk_drewN ?_ _ | refine blk_drew ?_ | refine blk_alloc ?_ _)); exact BK213.out) hb); replace HB := xp HB hb; (try clear hb); (try clear hb2); (try clear hk); (try clear hi); (try clear ho0); (try clear ho1)) | ((with_reducible refine gate_dst (N := 9) rfl ?_); refine box_event ?hg (N := 9) ?hd (cs := #[.slice none 0 0, .slice none 0 0]) (t := 30) ?hr ?_; (case hd => rfl); (case hg => rfl); (case hr => first | (go_simp; done) | (go_simp; rfl)); intro gb221 hg w37 hbox hb; replace HO195 := xq HO195 hb; replace HO198 := xq HO198 hb; replace HO201 := xq HO201 hb; replace HO204 := xq HO204 hb; replace HO209 := xq HO209 hb; replace HO212 := xq HO212 hb; replace HO216 := xq HO216 hb; replace HO219 := xq HO219 hb; have BK221 := Aside0.mk (hbox); have GW221 := xg HB hg; have GE221 := xg HB hg; replace HB := xp HB hb; have NB191_221 := xl BK191 hg; have NB221_191 := xh BK191 hg; replace BK191 := xk BK191 hb; have NB206_221 := xl BK206 hg; have NB221_206 := xh BK206 hg; replace BK206 := xk BK206 hb; have NB213_221 := xl BK213 hg; have NB221_213 := xh BK213 hg; replace BK213 := xk BK213 hb; clear hb hbox hg; obtain ⟨Ao38, co38, eo38⟩ := Kd.R_slice HO216.out; subst eo38; have hnb39 := NB221_191.out; have hnc39 := NB191_221.out; have hnb40 := NB221_206.out; have hnc40 := NB206_221.out; have hnb41 := NB221_213.out; have hnc41 := NB213_221.out; have hcz42_0 : w37.cell? ⟨gb221, 0, none⟩ = some (.slice none 0 0) := (blk_cell BK221.out 0).trans rfl; have hcz42_1 : w37.cell? ⟨gb221, 1, none⟩ = some (.slice none 0 0) := (blk_cell BK221.out 1).trans rfl; have hfz42_0 := blk_frozen BK221.out 0; have hfz42_1 := blk_frozen BK221.out 1; obtain ⟨Ao43, co43, eo43⟩ := Kd.R_slice HO219.out; subst eo43))
   (try simp only [Act.put, List.setIfInBounds_toArray, List.set_cons_zero, List.set_cons_succ])
   go_cut [47] (fun v47 wc => ∃ (kq : Nat) (x47_13 : Bool), v47 = .bool x47_13 ∧ Aside0 (laws_FnExactRunShips.j0 kq a1 t205 t220 x47_13 l0_0 l0_1 t199 t202 t207 t210 t214 t217 = some true) ∧ Aside0 (kq ≤ k) ∧ Aside0 (Kd.R (Kd.int .i64) 3 wc w.heap.size (fun k_ => nS k_ Ao31 t207.length co31 ∧ nS k_ Ao38 t214.length co38) (.slice Ao24 t199.length co24) t199) ∧ Aside0 (Kd.R Kd.bool 4 wc w.heap.size (fun k_ => nS k_ Ao35 t210.length co35 ∧ nS k_ Ao43 t217.length co43) (.slice Ao27 t202.length co27) t202) ∧ Aside0 (Kd.R (Kd.int .i64) 3 wc w.heap.size (fun k_ => nS k_ Ao24 t199.length co24 ∧ nS k_ Ao38 t214.length co38) (.slice Ao31 t207.length co31) t207) ∧ Aside0 (Kd.R Kd.bool 4 wc w.heap.size (fun k_ => nS k_ Ao27 t202.length co27 ∧ nS k_ Ao43 t217.length co43) (.slice Ao35 t210.length co35) t210) ∧ Aside0 (Kd.R (Kd.int .i64) 3 wc w.heap.size (fun k_ => nS k_ Ao24 t199.length co24 ∧ nS k_ Ao31 t207.length co31) (.slice Ao38 t214.length co38) t214) ∧ Aside0 (Kd.R Kd.bool 4 wc w.heap.size (fun k_ => nS k_ Ao27 t202.length co27 ∧ nS k_ Ao35 t210.length co35) (.slice Ao43 t217.length co43) t217) ∧ Aside0 (wc.heap[gb191]? = some (.cells #[(.slice A0_0 l0_0.length c0_0), (.slice A0_1 l0_1.length c0_1)] 26 (0, 0))) ∧ Aside0 (wc.heap[gb206]? = some (.cells #[(.slice Ao24 t199.length co24), (.slice Ao27 t202.length co27)] 30 (0, 0))) ∧ Aside0 (wc.heap[gb213]? = some (.cells #[(.slice Ao31 t207.length co31), (.slice Ao35 t210.length co35)] 30 (0, 0))) ∧ Aside0 (wc.heap[gb221]? = some (.cells #[(.slice Ao38 t214.length co38), (.slice Ao43 t217.length co43)] 30 (0, 0))) ∧ Aside0 (Below w.heap.size w wc))
   case first =>
    have H := HC14.out
    clear HC14
    replace H := Option.bind_eq_some_iff.mp H
    obtain ⟨t222, A440, H⟩ := H
    replace H : (if t222 = true then (laws_FnExactRunShips.j0 k a1 t205 t220 (t220 != t205) l0_0 l0_1 t199 t202 t207 t210 t214 t217) else (laws_FnExactRunShips.j0 k a1 t205 t220 true l0_0 l0_1 t199 t202 t207 t210 t214 t217)) = some true := H
    have A44 := Aside0.mk A440
    clear A440
    by_cases c45 : t222 = true
    ·subst c45
     have H1 : (laws_FnExactRunShips.j0 k a1 t205 t220 (t220 != t205) l0_0 l0_1 t199 t202 t207 t210 t214 t217) = some true := by first | (rw [if_pos rfl] at H; exact H) | rfl
     clear H
     have H := H1
     clear H1
     have H' := Aside0.mk H
     clear H
     have hnb46 := NB221_191.out
     have hnc46 := NB191_221.out
     have hnb47 := NB221_206.out
     have hnc47 := NB206_221.out
     have hnb48 := NB221_213.out
     have hnc48 := NB213_221.out
     have hcz49_0 : w37.cell? ⟨gb221, 0, none⟩ = some (.slice none 0 0) := (blk_cell BK221.out 0).trans rfl
     have hcz49_1 : w37.cell? ⟨gb221, 1, none⟩ = some (.slice none 0 0) := (blk_cell BK221.out 1).trans rfl
     have hfz49_0 := blk_frozen BK221.out 0
     have hfz49_1 := blk_frozen BK221.out 1
     have hnb50 := NB206_191.out
     have hnc50 := NB191_206.out
     have hnb51 := NB206_213.out
     have hnc51 := NB213_206.out
     have hcz52_0 : w37.cell? ⟨gb206, 0, none⟩ = some (.slice Ao24 t199.length co24) := (blk_cell BK206.out 0).trans rfl
     have hcz52_1 : w37.cell? ⟨gb206, 1, none⟩ = some (.slice Ao27 t202.length co27) := (blk_cell BK206.out 1).trans rfl
     have hfz52_0 := blk_frozen BK206.out 0
     have hfz52_1 := blk_frozen BK206.out 1
     go_wp2_with (first | ((with_reducible refine gate_callee (f := 14) rfl ?_); refine goesL_ (some 41) rfl rfl Tryd.func14 (by kernel_rfl) rfl #[.agg #[.slice Ao38 t214.length co38, .slice Ao43 t217.length co43], .agg #[.slice Ao24 t199.length co24, .slice Ao27 t202.length co27]] rfl (by (try simp only [List.map_toArray, List.map_cons, List.map_nil]); first | done | rfl | (simp only [List.length_drop, List.length_take]; rfl)) ?_; (with_reducible refine (laws_eqFlight.calls k _ _ t214 _ _ t217 _ _ t199 _ _ t202 true _ ?side1 ?side2 ?side3 ?side4 ?side5 ?side6 ?side7 ?side8 A44.out).mono ?_); (case side1 => refine (Kd.R_reads' (e := 3) (base := w.heap.size) (ok := fun k_ => (((True ∧ nS k_ Ao20 t193.length co20) ∧ nS k_ Ao24 t199.length co24) ∧ nS k_ Ao31 t207.length co31)) (n := t214.length) (c := co38) ?_).2.2; exact (by (with_reducible repeat (first | apply Kd.R_alloc | apply Kd.R_drewN | apply Kd.R_drew)); exact (Kd.R_mono (Kd.R_far (p := ⟨gb221, 1, none⟩) (Kd.R_far (p := ⟨gb221, 0, none⟩) (Kd.R_types HO216.out BK221.out (by decide)) (fun _ hk => hk.2) (.slice Ao38 t214.length co38)) (fun _ hk => hk.2) (.slice Ao43 t217.length co43)) (fun _ h_ => h_.1)))); (case side2 => exact (Kd.R_reads' HO216.out).2.1); (case side3 => refine (Kd.R_reads' (e := 4) (base := w.heap.size) (ok := fun k_ => (((True ∧ nS k_ Ao21 t196.length co21) ∧ nS k_ Ao27 t202.length co27) ∧ nS k_ Ao35 t210.length co35)) (n := t217.length) (c := co43) ?_).2.2; exact (by (with_reducible repeat (first | apply Kd.R_alloc | apply Kd.R_drewN | apply Kd.R_drew)); exact (Kd.R_mono (Kd.R_far (p := ⟨gb221, 1, none⟩) (Kd.R_far (p := ⟨gb221, 0, none⟩) (Kd.R_types HO219.out BK221.out (by decide)) (fun _ hk => hk.2) (.slice Ao38 t214.length co38)) (fun _ hk => hk.2) (.slice Ao43 t217.length co43)) (fun _ h_ => h_.1)))); (case side4 => exact (Kd.R_reads' HO219.out).2.1); (case side5 => refine (Kd.R_reads' (e := 3) (base := w.heap.size) (ok := fun k_ => (((True ∧ nS k_ Ao20 t193.length co20) ∧ nS k_ Ao31 t207.length co31) ∧ nS k_ Ao38 t214.length co38)) (n := t199.length) (c := co24) ?_).2.2; exact (by (with_reducible repeat (first | apply Kd.R_alloc | apply Kd.R_drewN | apply Kd.R_drew)); exact (Kd.R_mono (Kd.R_far (p := ⟨gb221, 1, none⟩) (Kd.R_far (p := ⟨gb221, 0, none⟩) (Kd.R_types HO201.out BK221.out (by decide)) (fun _ hk => hk.2) (.slice Ao38 t214.length co38)) (fun _ hk => hk.2) (.slice Ao43 t217.length co43)) (fun _ h_ => h_.1)))); (case side6 => exact (Kd.R_reads' HO201.out).2.1); (case side7 => refine (Kd.R_reads' (e := 4) (base := w.heap.size) (ok := fun k_ => (((True ∧ nS k_ Ao21 t196.length co21) ∧ nS k_ Ao35 t210.length co35) ∧ nS k_ Ao43 t217.length co43)) (n := t202.length) (c := co27) ?_).2.2; exact (by (with_reducible repeat (first | apply Kd.R_alloc | apply Kd.R_drewN | apply Kd.R_drew)); exact (Kd.R_mono (Kd.R_far (p := ⟨gb221, 1, none⟩) (Kd.R_far (p := ⟨gb221, 0, none⟩) (Kd.R_types HO204.out BK221.out (by decide)) (fun _ hk => hk.2) (.slice Ao38 t214.length co38)) (fun _ hk => hk.2) (.slice Ao43 t217.length co43)) (fun _ h_ => h_.1)))); (case side8 => exact (Kd.R_reads' HO204.out).2.1); rintro e w53 ⟨rfl, hb⟩; refine ⟨_, rfl, ?_⟩; replace HO195 := Aside0.mk (Kd.R_below (by (with_reducible repeat (first | apply Kd.R_alloc | apply Kd.R_drewN | apply Kd.R_drew)); exact (Kd.R_mono (Kd.R_far (p := ⟨gb221, 1, none⟩) (Kd.R_far (p := ⟨gb221, 0, none⟩) (Kd.R_types HO195.out BK221.out (by decide)) (fun _ hk => hk.2) (.slice Ao38 t214.length co38)) (fun _ hk => hk.2) (.slice Ao43 t217.length co43)) (fun _ h_ => h_.1))) hb); replace HO198 := Aside0.mk (Kd.R_below (by (with_reducible repeat (first | apply Kd.R_alloc | apply Kd.R_drewN | apply Kd.R_drew)); exact (Kd.R_mono (Kd.R_far (p := ⟨gb221, 1, none⟩) (Kd.R_far (p := ⟨gb221, 0, none⟩) (Kd.R_types HO198.out BK221.out (by decide)) (fun _ hk => hk.2) (.slice Ao38 t214.length co38)) (fun _ hk => hk.2) (.slice Ao43 t217.length co43)) (fun _ h_ => h_.1))) hb); replace HO201 := Aside0.mk (Kd.R_below (by (with_reducible repeat (first | apply Kd.R_alloc | apply Kd.R_drewN | apply Kd.R_drew)); exact (Kd.R_mono (Kd.R_far (p := ⟨gb221, 1, none⟩) (Kd.R_far (p := ⟨gb221, 0, none⟩) (Kd.R_types HO201.out BK221.out (by decide)) (fun _ hk => hk.2) (.slice Ao38 t214.length co38)) (fun _ hk => hk.2) (.slice Ao43 t217.length co43)) (fun _ h_ => h_.1))) hb); replace HO204 := Aside0.mk (Kd.R_below (by (with_reducible repeat (first | apply Kd.R_alloc | apply Kd.R_drewN | apply Kd.R_drew)); exact (Kd.R_mono (Kd.R_far (p := ⟨gb221, 1, none⟩) (Kd.R_far (p := ⟨gb221, 0, none⟩) (Kd.R_types HO204.out BK221.out (by decide)) (fun _ hk => hk.2) (.slice Ao38 t214.length co38)) (fun _ hk => hk.2) (.slice Ao43 t217.length co43)) (fun _ h_ => h_.1))) hb); replace HO209 := Aside0.mk (Kd.R_below (by (with_reducible repeat (first | apply Kd.R_alloc | apply Kd.R_drewN | apply Kd.R_drew)); exact (Kd.R_mono (Kd.R_far (p := ⟨gb221, 1, none⟩) (Kd.R_far (p := ⟨gb221, 0, none⟩) (Kd.R_types HO209.out BK221.out (by decide)) (fun _ hk => hk.2) (.slice Ao38 t214.length co38)) (fun _ hk => hk.2) (.slice Ao43 t217.length co43)) (fun _ h_ => h_.1))) hb); replace HO212 := Aside0.mk (Kd.R_below (by (with_reducible repeat (first | apply Kd.R_alloc | apply Kd.R_drewN | apply Kd.R_drew)); exact (Kd.R_mono (Kd.R_far (p := ⟨gb221, 1, none⟩) (Kd.R_far (p := ⟨gb221, 0, none⟩) (Kd.R_types HO212.out BK221.out (by decide)) (fun _ hk => hk.2) (.slice Ao38 t214.length co38)) (fun _ hk => hk.2) (.slice Ao43 t217.length co43)) (fun _ h_ => h_.1))) hb); replace HO216 := Aside0.mk (Kd.R_below (by (with_reducible repeat (first | apply Kd.R_alloc | apply Kd.R_drewN | apply Kd.R_drew)); exact (Kd.R_mono (Kd.R_far (p := ⟨gb221, 1, none⟩) (Kd.R_far (p := ⟨gb221, 0, none⟩) (Kd.R_types HO216.out BK221.out (by decide)) (fun _ hk => hk.2) (.slice Ao38 t214.length co38)) (fun _ hk => hk.2) (.slice Ao43 t217.length co43)) (fun _ h_ => h_.1))) hb); replace HO219 := Aside0.mk (Kd.R_below (by (with_reducible repeat (first | apply Kd.R_alloc | apply Kd.R_drewN | apply Kd.R_drew)); exact (Kd.R_mono (Kd.R_far (p := ⟨gb221, 1, none⟩) (Kd.R_far (p := ⟨gb221, 0, none⟩) (Kd.R_types HO219.out BK221.out (by decide)) (fun _ hk => hk.2) (.slice Ao38 t214.length co38)) (fun _ hk => hk.2) (.slice Ao43 t217.length co43)) (fun _ h_ => h_.1))) hb); replace BK191 := Aside0.mk (blk_below (g := gb191) (o := .cells #[.slice A0_0 l0_0.length c0_0, .slice A0_1 l0_1.length c0_1] 26 (0, 0)) (xff NB191_221.out NB191_221.out BK191.out) hb); replace BK206 := Aside0.mk (blk_below (g := gb206) (o := .cells #[.slice Ao24 t199.length co24, .slice Ao27 t202.length co27] 30 (0, 0)) (xff NB206_221.out NB206_221.out BK206.out) hb); replace BK213 := Aside0.mk (blk_below (g := gb213) (o := .cells #[.slice Ao31 t207.length co31, .slice Ao35 t210.length co35] 30 (0, 0)) (xff NB213_221.out NB213_221.out BK213.out) hb); replace BK221 := Aside0.mk (blk_below (g := gb221) (o := .cells #[.slice Ao38 t214.length co38, .slice Ao43 t217.length co43] 30 (0, 0)) (by (with_reducible repeat (first | refine blk_drewN ?_ _ | refine blk_drew ?_ | refine blk_alloc ?_ _)); refine blk_put (cs := #[.slice Ao38 t214.length co38, .slice none 0 0]) ?_ 1 _ rfl; (with_reducible repeat (first | refine blk_drewN ?_ _ | refine blk_drew ?_ | refine blk_alloc ?_ _)); refine blk_put (cs := #[.slice none 0 0, .slice none 0 0]) ?_ 0 _ rfl; (with_reducible repeat (first | refine blk_drewN ?_ _ | refine blk_drew ?_ | refine blk_alloc ?_ _)); exact BK221.out) hb); replace HB := xp HB hb; (try clear hb); (try clear hb2); (try clear hk); (try clear hi)))
     go_meet
     case rel => exact ⟨_, ((t220 != t205)), (by first | rfl | (simp; done) | (simp [*]; done)), H', ⟨by first | omega | exact Nat.le_refl _⟩, ⟨xm HO201 (fun _ hk => ⟨hk.1.2, hk.2⟩)⟩, ⟨xm HO204 (fun _ hk => ⟨hk.1.2, hk.2⟩)⟩, ⟨xm HO209 (fun _ hk => ⟨hk.1.2, hk.2⟩)⟩, ⟨xm HO212 (fun _ hk => ⟨hk.1.2, hk.2⟩)⟩, ⟨xm HO216 (fun _ hk => ⟨hk.1.2, hk.2⟩)⟩, ⟨xm HO219 (fun _ hk => ⟨hk.1.2, hk.2⟩)⟩, ⟨xb BK191.out⟩, ⟨xb BK206.out⟩, ⟨xb BK213.out⟩, ⟨xb BK221.out⟩, ⟨xs HB.out⟩⟩
    ·replace c45 := Bool.eq_false_iff.mpr c45
     subst c45
     have H1 : (laws_FnExactRunShips.j0 k a1 t205 t220 true l0_0 l0_1 t199 t202 t207 t210 t214 t217) = some true := by first | (rw [if_neg (show ¬ (false = true) by decide)] at H; exact H) | rfl
     clear H
     have H := H1
     clear H1
     have H' := Aside0.mk H
     clear H
     have hnb54 := NB221_191.out
     have hnc54 := NB191_221.out
     have hnb55 := NB221_206.out
     have hnc55 := NB206_221.out
     have hnb56 := NB221_213.out
     have hnc56 := NB213_221.out
     have hcz57_0 : w37.cell? ⟨gb221, 0, none⟩ = some (.slice none 0 0) := (blk_cell BK221.out 0).trans rfl
     have hcz57_1 : w37.cell? ⟨gb221, 1, none⟩ = some (.slice none 0 0) := (blk_cell BK221.out 1).trans rfl
     have hfz57_0 := blk_frozen BK221.out 0
     have hfz57_1 := blk_frozen BK221.out 1
     have hnb58 := NB206_191.out
     have hnc58 := NB191_206.out
     have hnb59 := NB206_213.out
     have hnc59 := NB213_206.out
     have hcz60_0 : w37.cell? ⟨gb206, 0, none⟩ = some (.slice Ao24 t199.length co24) := (blk_cell BK206.out 0).trans rfl
     have hcz60_1 : w37.cell? ⟨gb206, 1, none⟩ = some (.slice Ao27 t202.length co27) := (blk_cell BK206.out 1).trans rfl
     have hfz60_0 := blk_frozen BK206.out 0
     have hfz60_1 := blk_frozen BK206.out 1
     go_wp2_with (first | ((with_reducible refine gate_callee (f := 14) rfl ?_); refine goesL_ (some 41) rfl rfl Tryd.func14 (by kernel_rfl) rfl #[.agg #[.slice Ao38 t214.length co38, .slice Ao43 t217.length co43], .agg #[.slice Ao24 t199.length co24, .slice Ao27 t202.length co27]] rfl (by (try simp only [List.map_toArray, List.map_cons, List.map_nil]); first | done | rfl | (simp only [List.length_drop, List.length_take]; rfl)) ?_; (with_reducible refine (laws_eqFlight.calls k _ _ t214 _ _ t217 _ _ t199 _ _ t202 false _ ?side1 ?side2 ?side3 ?side4 ?side5 ?side6 ?side7 ?side8 A44.out).mono ?_); (case side1 => refine (Kd.R_reads' (e := 3) (base := w.heap.size) (ok := fun k_ => (((True ∧ nS k_ Ao20 t193.length co20) ∧ nS k_ Ao24 t199.length co24) ∧ nS k_ Ao31 t207.length co31)) (n := t214.length) (c := co38) ?_).2.2; exact (by (with_reducible repeat (first | apply Kd.R_alloc | apply Kd.R_drewN | apply Kd.R_drew)); exact (Kd.R_mono (Kd.R_far (p := ⟨gb221, 1, none⟩) (Kd.R_far (p := ⟨gb221, 0, none⟩) (Kd.R_types HO216.out BK221.out (by decide)) (fun _ hk => hk.2) (.slice Ao38 t214.length co38)) (fun _ hk => hk.2) (.slice Ao43 t217.length co43)) (fun _ h_ => h_.1)))); (case side2 => exact (Kd.R_reads' HO216.out).2.1); (case side3 => refine (Kd.R_reads' (e := 4) (base := w.heap.size) (ok := fun k_ => (((True ∧ nS k_ Ao21 t196.length co21) ∧ nS k_ Ao27 t202.length co27) ∧ nS k_ Ao35 t210.length co35)) (n := t217.length) (c := co43) ?_).2.2; exact (by (with_reducible repeat (first | apply Kd.R_alloc | apply Kd.R_drewN | apply Kd.R_drew)); exact (Kd.R_mono (Kd.R_far (p := ⟨gb221, 1, none⟩) (Kd.R_far (p := ⟨gb221, 0, none⟩) (Kd.R_types HO219.out BK221.out (by decide)) (fun _ hk => hk.2) (.slice Ao38 t214.length co38)) (fun _ hk => hk.2) (.slice Ao43 t217.length co43)) (fun _ h_ => h_.1)))); (case side4 => exact (Kd.R_reads' HO219.out).2.1); (case side5 => refine (Kd.R_reads' (e := 3) (base := w.heap.size) (ok := fun k_ => (((True ∧ nS k_ Ao20 t193.length co20) ∧ nS k_ Ao31 t207.length co31) ∧ nS k_ Ao38 t214.length co38)) (n := t199.length) (c := co24) ?_).2.2; exact (by (with_reducible repeat (first | apply Kd.R_alloc | apply Kd.R_drewN | apply Kd.R_drew)); exact (Kd.R_mono (Kd.R_far (p := ⟨gb221, 1, none⟩) (Kd.R_far (p := ⟨gb221, 0, none⟩) (Kd.R_types HO201.out BK221.out (by decide)) (fun _ hk => hk.2) (.slice Ao38 t214.length co38)) (fun _ hk => hk.2) (.slice Ao43 t217.length co43)) (fun _ h_ => h_.1)))); (case side6 => exact (Kd.R_reads' HO201.out).2.1); (case side7 => refine (Kd.R_reads' (e := 4) (base := w.heap.size) (ok := fun k_ => (((True ∧ nS k_ Ao21 t196.length co21) ∧ nS k_ Ao35 t210.length co35) ∧ nS k_ Ao43 t217.length co43)) (n := t202.length) (c := co27) ?_).2.2; exact (by (with_reducible repeat (first | apply Kd.R_alloc | apply Kd.R_drewN | apply Kd.R_drew)); exact (Kd.R_mono (Kd.R_far (p := ⟨gb221, 1, none⟩) (Kd.R_far (p := ⟨gb221, 0, none⟩) (Kd.R_types HO204.out BK221.out (by decide)) (fun _ hk => hk.2) (.slice Ao38 t214.length co38)) (fun _ hk => hk.2) (.slice Ao43 t217.length co43)) (fun _ h_ => h_.1)))); (case side8 => exact (Kd.R_reads' HO204.out).2.1); rintro e w61 ⟨rfl, hb⟩; refine ⟨_, rfl, ?_⟩; replace HO195 := Aside0.mk (Kd.R_below (by (with_reducible repeat (first | apply Kd.R_alloc | apply Kd.R_drewN | apply Kd.R_drew)); exact (Kd.R_mono (Kd.R_far (p := ⟨gb221, 1, none⟩) (Kd.R_far (p := ⟨gb221, 0, none⟩) (Kd.R_types HO195.out BK221.out (by decide)) (fun _ hk => hk.2) (.slice Ao38 t214.length co38)) (fun _ hk => hk.2) (.slice Ao43 t217.length co43)) (fun _ h_ => h_.1))) hb); replace HO198 := Aside0.mk (Kd.R_below (by (with_reducible repeat (first | apply Kd.R_alloc | apply Kd.R_drewN | apply Kd.R_drew)); exact (Kd.R_mono (Kd.R_far (p := ⟨gb221, 1, none⟩) (Kd.R_far (p := ⟨gb221, 0, none⟩) (Kd.R_types HO198.out BK221.out (by decide)) (fun _ hk => hk.2) (.slice Ao38 t214.length co38)) (fun _ hk => hk.2) (.slice Ao43 t217.length co43)) (fun _ h_ => h_.1))) hb); replace HO201 := Aside0.mk (Kd.R_below (by (with_reducible repeat (first | apply Kd.R_alloc | apply Kd.R_drewN | apply Kd.R_drew)); exact (Kd.R_mono (Kd.R_far (p := ⟨gb221, 1, none⟩) (Kd.R_far (p := ⟨gb221, 0, none⟩) (Kd.R_types HO201.out BK221.out (by decide)) (fun _ hk => hk.2) (.slice Ao38 t214.length co38)) (fun _ hk => hk.2) (.slice Ao43 t217.length co43)) (fun _ h_ => h_.1))) hb); replace HO204 := Aside0.mk (Kd.R_below (by (with_reducible repeat (first | apply Kd.R_alloc | apply Kd.R_drewN | apply Kd.R_drew)); exact (Kd.R_mono (Kd.R_far (p := ⟨gb221, 1, none⟩) (Kd.R_far (p := ⟨gb221, 0, none⟩) (Kd.R_types HO204.out BK221.out (by decide)) (fun _ hk => hk.2) (.slice Ao38 t214.length co38)) (fun _ hk => hk.2) (.slice Ao43 t217.length co43)) (fun _ h_ => h_.1))) hb); replace HO209 := Aside0.mk (Kd.R_below (by (with_reducible repeat (first | apply Kd.R_alloc | apply Kd.R_drewN | apply Kd.R_drew)); exact (Kd.R_mono (Kd.R_far (p := ⟨gb221, 1, none⟩) (Kd.R_far (p := ⟨gb221, 0, none⟩) (Kd.R_types HO209.out BK221.out (by decide)) (fun _ hk => hk.2) (.slice Ao38 t214.length co38)) (fun _ hk => hk.2) (.slice Ao43 t217.length co43)) (fun _ h_ => h_.1))) hb); replace HO212 := Aside0.mk (Kd.R_below (by (with_reducible repeat (first | apply Kd.R_alloc | apply Kd.R_drewN | apply Kd.R_drew)); exact (Kd.R_mono (Kd.R_far (p := ⟨gb221, 1, none⟩) (Kd.R_far (p := ⟨gb221, 0, none⟩) (Kd.R_types HO212.out BK221.out (by decide)) (fun _ hk => hk.2) (.slice Ao38 t214.length co38)) (fun _ hk => hk.2) (.slice Ao43 t217.length co43)) (fun _ h_ => h_.1))) hb); replace HO216 := Aside0.mk (Kd.R_below (by (with_reducible repeat (first | apply Kd.R_alloc | apply Kd.R_drewN | apply Kd.R_drew)); exact (Kd.R_mono (Kd.R_far (p := ⟨gb221, 1, none⟩) (Kd.R_far (p := ⟨gb221, 0, none⟩) (Kd.R_types HO216.out BK221.out (by decide)) (fun _ hk => hk.2) (.slice Ao38 t214.length co38)) (fun _ hk => hk.2) (.slice Ao43 t217.length co43)) (fun _ h_ => h_.1))) hb); replace HO219 := Aside0.mk (Kd.R_below (by (with_reducible repeat (first | apply Kd.R_alloc | apply Kd.R_drewN | apply Kd.R_drew)); exact (Kd.R_mono (Kd.R_far (p := ⟨gb221, 1, none⟩) (Kd.R_far (p := ⟨gb221, 0, none⟩) (Kd.R_types HO219.out BK221.out (by decide)) (fun _ hk => hk.2) (.slice Ao38 t214.length co38)) (fun _ hk => hk.2) (.slice Ao43 t217.length co43)) (fun _ h_ => h_.1))) hb); replace BK191 := Aside0.mk (blk_below (g := gb191) (o := .cells #[.slice A0_0 l0_0.length c0_0, .slice A0_1 l0_1.length c0_1] 26 (0, 0)) (xff NB191_221.out NB191_221.out BK191.out) hb); replace BK206 := Aside0.mk (blk_below (g := gb206) (o := .cells #[.slice Ao24 t199.length co24, .slice Ao27 t202.length co27] 30 (0, 0)) (xff NB206_221.out NB206_221.out BK206.out) hb); replace BK213 := Aside0.mk (blk_below (g := gb213) (o := .cells #[.slice Ao31 t207.length co31, .slice Ao35 t210.length co35] 30 (0, 0)) (xff NB213_221.out NB213_221.out BK213.out) hb); replace BK221 := Aside0.mk (blk_below (g := gb221) (o := .cells #[.slice Ao38 t214.length co38, .slice Ao43 t217.length co43] 30 (0, 0)) (by (with_reducible repeat (first | refine blk_drewN ?_ _ | refine blk_drew ?_ | refine blk_alloc ?_ _)); refine blk_put (cs := #[.slice Ao38 t214.length co38, .slice none 0 0]) ?_ 1 _ rfl; (with_reducible repeat (first | refine blk_drewN ?_ _ | refine blk_drew ?_ | refine blk_alloc ?_ _)); refine blk_put (cs := #[.slice none 0 0, .slice none 0 0]) ?_ 0 _ rfl; (with_reducible repeat (first | refine blk_drewN ?_ _ | refine blk_drew ?_ | refine blk_alloc ?_ _)); exact BK221.out) hb); replace HB := xp HB hb; (try clear hb); (try clear hb2); (try clear hk); (try clear hi)))
     go_meet
     case rel => exact ⟨_, (true), (by first | rfl | (simp; done) | (simp [*]; done)), H', ⟨by first | omega | exact Nat.le_refl _⟩, ⟨xm HO201 (fun _ hk => ⟨hk.1.2, hk.2⟩)⟩, ⟨xm HO204 (fun _ hk => ⟨hk.1.2, hk.2⟩)⟩, ⟨xm HO209 (fun _ hk => ⟨hk.1.2, hk.2⟩)⟩, ⟨xm HO212 (fun _ hk => ⟨hk.1.2, hk.2⟩)⟩, ⟨xm HO216 (fun _ hk => ⟨hk.1.2, hk.2⟩)⟩, ⟨xm HO219 (fun _ hk => ⟨hk.1.2, hk.2⟩)⟩, ⟨xb BK191.out⟩, ⟨xb BK206.out⟩, ⟨xb BK213.out⟩, ⟨xb BK221.out⟩, ⟨xs HB.out⟩⟩
   case rest =>
    clear HC14
    try clear c1
    try clear c2
    try clear p2
    try clear c3
    try clear c3b0
    try clear c3b1
    try clear c4
    try clear c5
    try clear c6
    try clear c6b0
    try clear c7
    try clear c10
    try clear c12
    try clear c14
    try clear c23
    try clear c24
    try clear c25
    try clear c32
    try clear c33
    try clear c39
    try clear c40
    try clear c41
    try clear c45
    try clear c46
    try clear c47
    try clear c48
    try clear c50
    try clear c51
    try clear c54
    try clear c55
    try clear c56
    try clear c58
    try clear c59
    try clear hcz16_0
    try clear hcz16_1
    try clear hcz18_0
    try clear hcz18_1
    try clear hcz26_0
    try clear hcz26_1
    try clear hcz28_0
    try clear hcz28_1
    try clear hcz34_0
    try clear hcz34_1
    try clear hcz42_0
    try clear hcz42_1
    try clear hcz49_0
    try clear hcz49_1
    try clear hcz52_0
    try clear hcz52_1
    try clear hcz57_0
    try clear hcz57_1
    try clear hcz60_0
    try clear hcz60_1
    try clear hcz8_0
    try clear hcz8_1
    try clear hfz16_0
    try clear hfz16_1
    try clear hfz18_0
    try clear hfz18_1
    try clear hfz26_0
    try clear hfz26_1
    try clear hfz28_0
    try clear hfz28_1
    try clear hfz34_0
    try clear hfz34_1
    try clear hfz42_0
    try clear hfz42_1
    try clear hfz49_0
    try clear hfz49_1
    try clear hfz52_0
    try clear hfz52_1
    try clear hfz57_0
    try clear hfz57_1
    try clear hfz60_0
    try clear hfz60_1
    try clear hfz8_0
    try clear hfz8_1
    obtain ⟨kq, x47_13, rfl, HA, HJ13, HO_207000, HO_207001, HO_214000, HO_214001, HO_222000, HO_222001, BK191, BK206, BK213, BK221, HB⟩ := hcut
    cases kq with
    | zero => exact absurd HA.out (by simp [laws_FnExactRunShips.j0])
    | succ kj13 =>
     have H := HA.out
     clear HA
     simp only [laws_FnExactRunShips.j0] at H
     by_cases c62 : x47_13 = true
     ·subst c62
      have H1 : (some false) = some true := by first | (rw [if_pos rfl] at H; exact H) | rfl
      clear H
      have H := H1
      clear H1
      exact absurd H (by simp)
     ·replace c62 := Bool.eq_false_iff.mpr c62
      subst c62
      have H1 : ((laws_toFlight.f kj13 l0_0 l0_1).bind fun bt223 => ((laws_eqFlight.f kj13 t207 t210 bt223.1 bt223.2).bind fun t229 => (if t229 = true then ((laws_markFlight.f kj13 t207 t210 1).bind fun bt230 => (if bt230.1 < 0 then (laws_FnExactRunShips.j1 kj13 a1 t205 true l0_0 l0_1 t199 t202 t214 t217) else ((laws_eqFlight.f kj13 t214 t217 t199 t202).bind fun t233 => (if t233 = true then (laws_FnExactRunShips.j1 kj13 a1 t205 (t220 != t205) l0_0 l0_1 t199 t202 t214 t217) else (laws_FnExactRunShips.j1 kj13 a1 t205 true l0_0 l0_1 t199 t202 t214 t217))))) else (some false)))) = some true := by first | (rw [if_neg (show ¬ (false = true) by decide)] at H; exact H) | rfl
      clear H
      have H := H1
      clear H1
      replace H := Option.bind_eq_some_iff.mp H
      obtain ⟨⟨t223, t226⟩, A630, H⟩ := H
      replace H : ((laws_eqFlight.f kj13 t207 t210 t223 t226).bind fun t229 => (if t229 = true then ((laws_markFlight.f kj13 t207 t210 1).bind fun bt230 => (if bt230.1 < 0 then (laws_FnExactRunShips.j1 kj13 a1 t205 true l0_0 l0_1 t199 t202 t214 t217) else ((laws_eqFlight.f kj13 t214 t217 t199 t202).bind fun t233 => (if t233 = true then (laws_FnExactRunShips.j1 kj13 a1 t205 (t220 != t205) l0_0 l0_1 t199 t202 t214 t217) else (laws_FnExactRunShips.j1 kj13 a1 t205 true l0_0 l0_1 t199 t202 t214 t217))))) else (some false))) = some true := H
      have A63 := Aside0.mk A630
      clear A630
      replace H := Option.bind_eq_some_iff.mp H
      obtain ⟨t229, A640, H⟩ := H
      replace H : (if t229 = true then ((laws_markFlight.f kj13 t207 t210 1).bind fun bt230 => (if bt230.1 < 0 then (laws_FnExactRunShips.j1 kj13 a1 t205 true l0_0 l0_1 t199 t202 t214 t217) else ((laws_eqFlight.f kj13 t214 t217 t199 t202).bind fun t233 => (if t233 = true then (laws_FnExactRunShips.j1 kj13 a1 t205 (t220 != t205) l0_0 l0_1 t199 t202 t214 t217) else (laws_FnExactRunShips.j1 kj13 a1 t205 true l0_0 l0_1 t199 t202 t214 t217))))) else (some false)) = some true := H
      have A64 := Aside0.mk A640
      clear A640
      by_cases c65 : t229 = true
      ·subst c65
       have H1 : ((laws_markFlight.f kj13 t207 t210 1).bind fun bt230 => (if bt230.1 < 0 then (laws_FnExactRunShips.j1 kj13 a1 t205 true l0_0 l0_1 t199 t202 t214 t217) else ((laws_eqFlight.f kj13 t214 t217 t199 t202).bind fun t233 => (if t233 = true then (laws_FnExactRunShips.j1 kj13 a1 t205 (t220 != t205) l0_0 l0_1 t199 t202 t214 t217) else (laws_FnExactRunShips.j1 kj13 a1 t205 true l0_0 l0_1 t199 t202 t214 t217))))) = some true := by first | (rw [if_pos rfl] at H; exact H) | rfl
       clear H
       have H := H1
       clear H1
       replace H := Option.bind_eq_some_iff.mp H
       obtain ⟨⟨t230, t231, t232⟩, A660, H⟩ := H
       replace H : (if t230 < 0 then (laws_FnExactRunShips.j1 kj13 a1 t205 true l0_0 l0_1 t199 t202 t214 t217) else ((laws_eqFlight.f kj13 t214 t217 t199 t202).bind fun t233 => (if t233 = true then (laws_FnExactRunShips.j1 kj13 a1 t205 (t220 != t205) l0_0 l0_1 t199 t202 t214 t217) else (laws_FnExactRunShips.j1 kj13 a1 t205 true l0_0 l0_1 t199 t202 t214 t217)))) = some true := H
       have A66 := Aside0.mk A660
       clear A660
       have HC67 := Aside0.mk H
       clear H
       try go_wp2
       replace HO_207000 := xw HO_207000
       replace HO_207001 := xw HO_207001
       replace HO_214000 := xw HO_214000
       replace HO_214001 := xw HO_214001
       replace HO_222000 := xw HO_222000
       replace HO_222001 := xw HO_222001
       replace BK191 := xv BK191
       replace BK206 := xv BK206
       replace BK213 := xv BK213
       replace BK221 := xv BK221
       replace HB := Aside0.mk (below_drew1 HB.out)
       refine start_ (n := 5) (S := fun w' => w'.cell? ⟨gb213, 0, none⟩ = some (.slice Ao31 t207.length co31) ∧ w'.cell? ⟨gb213, 1, none⟩ = some (.slice Ao35 t210.length co35) ∧ w'.cell? ⟨gb191, 0, none⟩ = some (.slice A0_0 l0_0.length c0_0) ∧ w'.cell? ⟨gb191, 1, none⟩ = some (.slice A0_1 l0_1.length c0_1)) (ds := []) #[false, false, false, false, false] (by kernel_rfl) rfl rfl ⟨(blk_cell BK213.out 0).trans rfl, (blk_cell BK213.out 1).trans rfl, (blk_cell BK191.out 0).trans rfl, (blk_cell BK191.out 1).trans rfl⟩ (fun hHeld => ?_)
       generalize wc.drew = w68 at HO_207000 HO_207001 HO_214000 HO_214001 HO_222000 HO_222001 BK191 BK206 BK213 BK221 HB hHeld ⊢
       refine take_ (i := 0) (N := some 48) (v := ?_) (a' := ?_) #[true, false, false, false, false] rfl rfl (by kernel_rfl) (fun _ _ _ h => h) (Or.inl ⟨by rfl, ?_⟩) hHeld ?_ ?_
       rotate_left
       ·rintro w' ⟨s0, s1, s2, s3⟩
        go_simp
        with_reducible rfl
       rotate_left
       ·simp only [Act.put, List.setIfInBounds_toArray, List.set_cons_zero, List.set_cons_succ, i64_w, i32_w]
        rfl
       refine take_ (i := 1) (N := some 49) (v := ?_) (a' := ?_) #[true, true, false, false, false] rfl rfl (by kernel_rfl) (fun _ _ _ h => h) (Or.inl ⟨by rfl, ?_⟩) hHeld ?_ ?_
       rotate_left
       ·rintro w' ⟨s0, s1, s2, s3⟩
        go_simp
        with_reducible rfl
       rotate_left
       ·simp only [Act.put, List.setIfInBounds_toArray, List.set_cons_zero, List.set_cons_succ, i64_w, i32_w]
        rfl
       refine one_ (i := 2) (N := some 50) #[true, true, true, false, false] rfl rfl (by kernel_rfl) (by decide) (fun K hK => ?_)
       refine goes_ Tryd.func12 (by kernel_rfl) rfl #[.agg #[.slice A0_0 l0_0.length c0_0, .slice A0_1 l0_1.length c0_1]] (by rfl) rfl rfl (by (try simp only [List.map_toArray, List.map_cons, List.map_nil]); first | done | rfl | (simp only [List.length_drop, List.length_take]; rfl)) ?_
       with_reducible refine (laws_toFlight.calls kj13 _ _ l0_0 _ _ l0_1 t223 t226 _ ?side1 ?side2 ?side3 ?side4 A63.out).mono ?_
       (case side1 => exact xd ((Kd.C_below HR0_0.out HB.out)))
       (case side2 => exact HC0_0.out)
       (case side3 => exact xd ((Kd.C_below HR0_1.out HB.out)))
       (case side4 => exact HC0_1.out)
       rintro e w69 ⟨v224, v227, rfl, ho0, ho1, hb⟩
       refine ⟨_, rfl, ?_⟩
       have HO225 := Aside0.mk (Kd.R_lower (Kd.R_new' (Kd.R_new' (Kd.R_new' ho0 (Kd.R_lt (xr HO_207000.out))) (Kd.R_lt (xr HO_214000.out))) (Kd.R_lt (xr HO_222000.out))) (below_size (xs HB.out)))
       replace HO_207000 := Aside0.mk (Kd.R_elder' (xr HO_207000.out) (Kd.R_base ho0) hb)
       replace HO_214000 := Aside0.mk (Kd.R_elder' (xr HO_214000.out) (Kd.R_base ho0) hb)
       replace HO_222000 := Aside0.mk (Kd.R_elder' (xr HO_222000.out) (Kd.R_base ho0) hb)
       have HO228 := Aside0.mk (Kd.R_lower (Kd.R_new' (Kd.R_new' (Kd.R_new' ho1 (Kd.R_lt (xr HO_207001.out))) (Kd.R_lt (xr HO_214001.out))) (Kd.R_lt (xr HO_222001.out))) (below_size (xs HB.out)))
       replace HO_207001 := Aside0.mk (Kd.R_elder' (xr HO_207001.out) (Kd.R_base ho1) hb)
       replace HO_214001 := Aside0.mk (Kd.R_elder' (xr HO_214001.out) (Kd.R_base ho1) hb)
       replace HO_222001 := Aside0.mk (Kd.R_elder' (xr HO_222001.out) (Kd.R_base ho1) hb)
       replace BK191 := xk BK191 hb
       replace BK206 := xk BK206 hb
       replace BK213 := xk BK213 hb
       replace BK221 := xk BK221 hb
       replace HB := xp HB hb
       (try clear hb)
       (try clear hb2)
       (try clear hk)
       (try clear hi)
       (try clear ho0)
       (try clear ho1)
       obtain ⟨Ao70, co70, eo70⟩ := Kd.R_slice HO225.out
       (first | subst eo70 | (injection eo70 with f1_ f2_ f3_; have f4_ := f1_.symm; have f5_ := f3_.symm; clear f1_ f2_ f3_; subst f4_; subst f5_))
       obtain ⟨Ao71, co71, eo71⟩ := Kd.R_slice HO228.out
       (first | subst eo71 | (injection eo71 with f1_ f2_ f3_; have f4_ := f1_.symm; have f5_ := f3_.symm; clear f1_ f2_ f3_; subst f4_; subst f5_))
       refine hK.out _ _ ⟨(blk_cell BK213.out 0).trans rfl, (blk_cell BK213.out 1).trans rfl, (blk_cell BK191.out 0).trans rfl, (blk_cell BK191.out 1).trans rfl⟩ (fun hHeld => ?_)
       clear hK K
       refine norm_ (a' := ?_) ?_ ?_
       rotate_left
       ·show Act.put _ (some 50) _ = _
        simp only [Act.put, List.setIfInBounds_toArray, List.set_cons_zero, List.set_cons_succ, i64_w, i32_w]
        rfl
       refine one_ (i := 3) (N := some 51) #[true, true, true, true, false] rfl rfl (by kernel_rfl) (by decide) (fun K hK => ?_)
       refine goes_ Tryd.func14 (by kernel_rfl) rfl #[.agg #[.slice Ao31 t207.length co31, .slice Ao35 t210.length co35], .agg #[.slice Ao70 t223.length co70, .slice Ao71 t226.length co71]] (by rfl) rfl rfl (by (try simp only [List.map_toArray, List.map_cons, List.map_nil]); first | done | rfl | (simp only [List.length_drop, List.length_take]; rfl)) ?_
       with_reducible refine (laws_eqFlight.calls kj13 _ _ t207 _ _ t210 _ _ t223 _ _ t226 true _ ?side1 ?side2 ?side3 ?side4 ?side5 ?side6 ?side7 ?side8 A64.out).mono ?_
       (case side1 => exact xd ((Kd.R_reads' HO_214000.out).2.2))
       (case side2 => exact (Kd.R_reads' HO_214000.out).2.1)
       (case side3 => exact xd ((Kd.R_reads' HO_214001.out).2.2))
       (case side4 => exact (Kd.R_reads' HO_214001.out).2.1)
       (case side5 => exact xd ((Kd.R_reads' HO225.out).2.2))
       (case side6 => exact (Kd.R_reads' HO225.out).2.1)
       (case side7 => exact xd ((Kd.R_reads' HO228.out).2.2))
       (case side8 => exact (Kd.R_reads' HO228.out).2.1)
       rintro e w72 ⟨rfl, hb⟩
       refine ⟨_, rfl, ?_⟩
       replace HO_207000 := xq HO_207000 hb
       replace HO_207001 := xq HO_207001 hb
       replace HO_214000 := xq HO_214000 hb
       replace HO_214001 := xq HO_214001 hb
       replace HO_222000 := xq HO_222000 hb
       replace HO_222001 := xq HO_222001 hb
       replace HO225 := xq HO225 hb
       replace HO228 := xq HO228 hb
       replace BK191 := xk BK191 hb
       replace BK206 := xk BK206 hb
       replace BK213 := xk BK213 hb
       replace BK221 := xk BK221 hb
       replace HB := xp HB hb
       (try clear hb)
       (try clear hb2)
       (try clear hk)
       (try clear hi)
       refine hK.out _ _ ⟨(blk_cell BK213.out 0).trans rfl, (blk_cell BK213.out 1).trans rfl, (blk_cell BK191.out 0).trans rfl, (blk_cell BK191.out 1).trans rfl⟩ (fun hHeld => ?_)
       clear hK K
       refine norm_ (a' := ?_) ?_ ?_
       rotate_left
       ·show Act.put _ (some 51) _ = _
        simp only [Act.put, List.setIfInBounds_toArray, List.set_cons_zero, List.set_cons_succ, i64_w, i32_w]
        rfl
       refine pure_ (i := 4) (N := some 52) (v := ?_) (a' := ?_) #[true, true, true, true, true] rfl rfl (by kernel_rfl) (fun _ _ _ h => h) (Or.inl ⟨by rfl, ?_⟩) ?_ ?_
       rotate_left
       ·intro w'
        go_simp
        with_reducible rfl
       rotate_left
       ·simp only [Act.put, List.setIfInBounds_toArray, List.set_cons_zero, List.set_cons_succ, i64_w, i32_w]
        rfl
       refine done_ (by kernel_rfl) ?_
       have hnb73 := NB213_191.out
       have hnc73 := NB191_213.out
       have hnb74 := NB213_206.out
       have hnc74 := NB206_213.out
       have hnb75 := NB213_221.out
       have hnc75 := NB221_213.out
       have hcz76_0 : w72.cell? ⟨gb213, 0, none⟩ = some (.slice Ao31 t207.length co31) := (blk_cell BK213.out 0).trans rfl
       have hcz76_1 : w72.cell? ⟨gb213, 1, none⟩ = some (.slice Ao35 t210.length co35) := (blk_cell BK213.out 1).trans rfl
       have hfz76_0 := blk_frozen BK213.out 0
       have hfz76_1 := blk_frozen BK213.out 1
       go_upto_region 16 with (first | ((with_reducible refine gate_callee (f := 18) rfl ?_); refine goesL_ (some 55) rfl rfl Tryd.func18 (by kernel_rfl) rfl #[.agg #[.slice Ao31 t207.length co31, .slice Ao35 t210.length co35], .int .i64 1] rfl (by (try simp only [List.map_toArray, List.map_cons, List.map_nil]); first | done | rfl | (simp only [List.length_drop, List.length_take]; rfl)) ?_; (with_reducible refine (laws_markFlight.calls kj13 (fun k_ => some k_ = (.slice Ao31 t207.length co31 : Value).ownBlock) (.slice Ao31 t207.length co31) t207 (fun k_ => some k_ = (.slice Ao35 t210.length co35 : Value).ownBlock) (.slice Ao35 t210.length co35) t210 1 t230 t231 t232 w _ ?side1 ?side2 ?side3 A66.out).mono ?_); (case side1 => repeat (first | (with_reducible first | exact HB.out | apply below_alloc | apply pw_below_drewN | apply below_drew1 | refine below_set ?_ GE191.out | refine below_set ?_ GE206.out | refine below_set ?_ GE213.out | refine below_set ?_ GE221.out) | exact HB.out)); (case side2 => exact Kd.R_tight rfl HO_214000.out); (case side3 => exact Kd.R_tight rfl HO_214001.out); rintro e w77 ⟨rfl, hy0, hy1, hb, hkp⟩; refine ⟨_, rfl, ?_⟩; replace HO_207000 := Aside0.mk (Kd.R_mono (ok' := fun k_ => nS k_ Ao31 t207.length co31 ∧ nS k_ Ao38 t214.length co38 ∧ nS k_ Ao70 t223.length co70) (Kd.R_keptB ((Kd.R_apart' HO_207000.out (Kd.R_typed HO_214001.out) (by decide))) hkp (fun k_ hk_ hs_ => Or.elim hs_ (fun e_ => (hk_.1.1.1) e_) (fun e_ => (hk_.2) e_))) (fun k_ hk_ => ⟨hk_.1.1.1.1, hk_.1.1.1.2, hk_.1.1.2⟩)); replace HO_207001 := Aside0.mk (Kd.R_mono (ok' := fun k_ => nS k_ Ao35 t210.length co35 ∧ nS k_ Ao43 t217.length co43 ∧ nS k_ Ao71 t226.length co71) (Kd.R_keptB ((Kd.R_apart' HO_207001.out (Kd.R_typed HO_214000.out) (by decide))) hkp (fun k_ hk_ hs_ => Or.elim hs_ (fun e_ => (hk_.2) e_) (fun e_ => (hk_.1.1.1) e_))) (fun k_ hk_ => ⟨hk_.1.1.1.1, hk_.1.1.1.2, hk_.1.1.2⟩)); replace HO_222000 := Aside0.mk (Kd.R_mono (ok' := fun k_ => nS k_ Ao24 t199.length co24 ∧ nS k_ Ao31 t207.length co31 ∧ nS k_ Ao70 t223.length co70) (Kd.R_keptB ((Kd.R_apart' HO_222000.out (Kd.R_typed HO_214001.out) (by decide))) hkp (fun k_ hk_ hs_ => Or.elim hs_ (fun e_ => (hk_.1.1.2) e_) (fun e_ => (hk_.2) e_))) (fun k_ hk_ => ⟨hk_.1.1.1.1, hk_.1.1.1.2, hk_.1.1.2⟩)); replace HO_222001 := Aside0.mk (Kd.R_mono (ok' := fun k_ => nS k_ Ao27 t202.length co27 ∧ nS k_ Ao35 t210.length co35 ∧ nS k_ Ao71 t226.length co71) (Kd.R_keptB ((Kd.R_apart' HO_222001.out (Kd.R_typed HO_214000.out) (by decide))) hkp (fun k_ hk_ hs_ => Or.elim hs_ (fun e_ => (hk_.2) e_) (fun e_ => (hk_.1.1.2) e_))) (fun k_ hk_ => ⟨hk_.1.1.1.1, hk_.1.1.1.2, hk_.1.1.2⟩)); replace BK191 := Aside0.mk (blk_kept (xb BK191.out) hkp (fun hs_ => Or.elim hs_ (fun e_ => (fun e_ => (Kd.R_ne HO_214000.out BK191.out (by decide)) e_) e_) (fun e_ => (fun e_ => (Kd.R_ne HO_214001.out BK191.out (by decide)) e_) e_))); replace BK206 := Aside0.mk (blk_kept (xb BK206.out) hkp (fun hs_ => Or.elim hs_ (fun e_ => (fun e_ => (Kd.R_ne HO_214000.out BK206.out (by decide)) e_) e_) (fun e_ => (fun e_ => (Kd.R_ne HO_214001.out BK206.out (by decide)) e_) e_))); replace BK213 := Aside0.mk (blk_kept (xb BK213.out) hkp (fun hs_ => Or.elim hs_ (fun e_ => (fun e_ => (Kd.R_ne HO_214000.out BK213.out (by decide)) e_) e_) (fun e_ => (fun e_ => (Kd.R_ne HO_214001.out BK213.out (by decide)) e_) e_))); replace BK221 := Aside0.mk (blk_kept (xb BK221.out) hkp (fun hs_ => Or.elim hs_ (fun e_ => (fun e_ => (Kd.R_ne HO_214000.out BK221.out (by decide)) e_) e_) (fun e_ => (fun e_ => (Kd.R_ne HO_214001.out BK221.out (by decide)) e_) e_))); replace HO225 := Aside0.mk (Kd.R_mono (ok' := fun k_ => nS k_ Ao24 t199.length co24 ∧ nS k_ Ao31 t207.length co31 ∧ nS k_ Ao38 t214.length co38) (Kd.R_keptB ((Kd.R_apart' HO225.out (Kd.R_typed HO_214001.out) (by decide))) hkp (fun k_ hk_ hs_ => Or.elim hs_ (fun e_ => (hk_.1.1.2) e_) (fun e_ => (hk_.2) e_))) (fun k_ hk_ => ⟨hk_.1.1.1.1.2, hk_.1.1.1.2, hk_.1.1.2⟩)); replace HO_214001 := Aside0.mk (Kd.R_reok rfl hy1 (fun k_ e_ => HO_214001.out.1 k_ e_)); replace HO228 := Aside0.mk (Kd.R_mono (ok' := fun k_ => nS k_ Ao27 t202.length co27 ∧ nS k_ Ao35 t210.length co35 ∧ nS k_ Ao43 t217.length co43) (Kd.R_keptB ((Kd.R_apart' HO228.out (Kd.R_typed HO_214000.out) (by decide))) hkp (fun k_ hk_ hs_ => Or.elim hs_ (fun e_ => (hk_.2) e_) (fun e_ => (hk_.1.1.2) e_))) (fun k_ hk_ => ⟨hk_.1.1.1.1.2, hk_.1.1.1.2, hk_.1.1.2⟩)); replace HO_214000 := Aside0.mk (Kd.R_reok rfl hy0 (fun k_ e_ => HO_214000.out.1 k_ e_)); replace HB := Aside0.mk (hb); (try clear hb); (try clear hkp); (try clear hy0); (try clear hy1)))
       (try simp only [Act.put, List.setIfInBounds_toArray, List.set_cons_zero, List.set_cons_succ])
       go_cut [68] (fun v68 wc => ∃ (kq : Nat) (x68_66 : Bool), v68 = .bool x68_66 ∧ Aside0 (laws_FnExactRunShips.j1 kq a1 t205 x68_66 l0_0 l0_1 t199 t202 t214 t217 = some true) ∧ Aside0 (kq ≤ kj13) ∧ Aside0 (Kd.R (Kd.int .i64) 3 wc w.heap.size (fun k_ => nS k_ Ao31 t207.length co31 ∧ nS k_ Ao38 t214.length co38) (.slice Ao24 t199.length co24) t199) ∧ Aside0 (Kd.R Kd.bool 4 wc w.heap.size (fun k_ => nS k_ Ao35 t210.length co35 ∧ nS k_ Ao43 t217.length co43) (.slice Ao27 t202.length co27) t202) ∧ Aside0 (Kd.R (Kd.int .i64) 3 wc w.heap.size (fun k_ => nS k_ Ao24 t199.length co24 ∧ nS k_ Ao38 t214.length co38) (.slice Ao31 t207.length co31) t231) ∧ Aside0 (Kd.R Kd.bool 4 wc w.heap.size (fun k_ => nS k_ Ao27 t202.length co27 ∧ nS k_ Ao43 t217.length co43) (.slice Ao35 t210.length co35) t232) ∧ Aside0 (Kd.R (Kd.int .i64) 3 wc w.heap.size (fun k_ => nS k_ Ao24 t199.length co24 ∧ nS k_ Ao31 t207.length co31) (.slice Ao38 t214.length co38) t214) ∧ Aside0 (Kd.R Kd.bool 4 wc w.heap.size (fun k_ => nS k_ Ao27 t202.length co27 ∧ nS k_ Ao35 t210.length co35) (.slice Ao43 t217.length co43) t217) ∧ Aside0 (wc.heap[gb191]? = some (.cells #[(.slice A0_0 l0_0.length c0_0), (.slice A0_1 l0_1.length c0_1)] 26 (0, 0))) ∧ Aside0 (wc.heap[gb206]? = some (.cells #[(.slice Ao24 t199.length co24), (.slice Ao27 t202.length co27)] 30 (0, 0))) ∧ Aside0 (wc.heap[gb213]? = some (.cells #[(.slice Ao31 t207.length co31), (.slice Ao35 t210.length co35)] 30 (0, 0))) ∧ Aside0 (wc.heap[gb221]? = some (.cells #[(.slice Ao38 t214.length co38), (.slice Ao43 t217.length co43)] 30 (0, 0))) ∧ Aside0 (Below w.heap.size w wc))
       case first =>
        have H := HC67.out
        clear HC67
        by_cases c78 : t230 < 0
        ·rw [if_pos c78] at H
         have c78b0 : decide (t230 < 0) = true := decide_eq_true c78
         clear c78
         (first | rw [c78b0] | (simp only [i64_w, i32_w]; rw [c78b0]) | skip)
         have H' := Aside0.mk H
         clear H
         go_wp2
         go_meet
         case rel => exact ⟨_, (true), (by first | rfl | (simp; done) | (simp [*]; done)), H', ⟨by have := HJ13.out; first | omega | exact Nat.le_refl _⟩, ⟨xm HO_207000 (fun _ hk => ⟨hk.1, hk.2.1⟩)⟩, ⟨xm HO_207001 (fun _ hk => ⟨hk.1, hk.2.1⟩)⟩, ⟨xm HO_214000 (fun _ hk => ⟨hk.1.1, hk.1.2⟩)⟩, ⟨xm HO_214001 (fun _ hk => ⟨hk.1.1, hk.1.2⟩)⟩, ⟨xm HO_222000 (fun _ hk => ⟨hk.1, hk.2.1⟩)⟩, ⟨xm HO_222001 (fun _ hk => ⟨hk.1, hk.2.1⟩)⟩, ⟨xb BK191.out⟩, ⟨xb BK206.out⟩, ⟨xb BK213.out⟩, ⟨xb BK221.out⟩, ⟨xs HB.out⟩⟩
        ·rw [if_neg c78] at H
         have c78b0 : decide (t230 < 0) = false := decide_eq_false c78
         clear c78
         (first | rw [c78b0] | (simp only [i64_w, i32_w]; rw [c78b0]) | skip)
         replace H := Option.bind_eq_some_iff.mp H
         obtain ⟨t233, A790, H⟩ := H
         replace H : (if t233 = true then (laws_FnExactRunShips.j1 kj13 a1 t205 (t220 != t205) l0_0 l0_1 t199 t202 t214 t217) else (laws_FnExactRunShips.j1 kj13 a1 t205 true l0_0 l0_1 t199 t202 t214 t217)) = some true := H
         have A79 := Aside0.mk A790
         clear A790
         by_cases c80 : t233 = true
         ·subst c80
          have H1 : (laws_FnExactRunShips.j1 kj13 a1 t205 (t220 != t205) l0_0 l0_1 t199 t202 t214 t217) = some true := by first | (rw [if_pos rfl] at H; exact H) | rfl
          clear H
          have H := H1
          clear H1
          have H' := Aside0.mk H
          clear H
          have hnb81 := NB221_191.out
          have hnc81 := NB191_221.out
          have hnb82 := NB221_206.out
          have hnc82 := NB206_221.out
          have hnb83 := NB221_213.out
          have hnc83 := NB213_221.out
          have hcz84_0 : w77.cell? ⟨gb221, 0, none⟩ = some (.slice Ao38 t214.length co38) := (blk_cell BK221.out 0).trans rfl
          have hcz84_1 : w77.cell? ⟨gb221, 1, none⟩ = some (.slice Ao43 t217.length co43) := (blk_cell BK221.out 1).trans rfl
          have hfz84_0 := blk_frozen BK221.out 0
          have hfz84_1 := blk_frozen BK221.out 1
          have hnb85 := NB206_191.out
          have hnc85 := NB191_206.out
          have hnb86 := NB206_213.out
          have hnc86 := NB213_206.out
          have hcz87_0 : w77.cell? ⟨gb206, 0, none⟩ = some (.slice Ao24 t199.length co24) := (blk_cell BK206.out 0).trans rfl
          have hcz87_1 : w77.cell? ⟨gb206, 1, none⟩ = some (.slice Ao27 t202.length co27) := (blk_cell BK206.out 1).trans rfl
          have hfz87_0 := blk_frozen BK206.out 0
          have hfz87_1 := blk_frozen BK206.out 1
          go_wp2_with (first | (go_at_call 14; (with_reducible refine (laws_eqFlight.calls kj13 _ _ t214 _ _ t217 _ _ t199 _ _ t202 true _ ?side1 ?side2 ?side3 ?side4 ?side5 ?side6 ?side7 ?side8 A79.out).mono ?_); (case side1 => exact xd ((Kd.R_reads' HO_222000.out).2.2)); (case side2 => exact (Kd.R_reads' HO_222000.out).2.1); (case side3 => exact xd ((Kd.R_reads' HO_222001.out).2.2)); (case side4 => exact (Kd.R_reads' HO_222001.out).2.1); (case side5 => exact xd ((Kd.R_reads' HO_207000.out).2.2)); (case side6 => exact (Kd.R_reads' HO_207000.out).2.1); (case side7 => exact xd ((Kd.R_reads' HO_207001.out).2.2)); (case side8 => exact (Kd.R_reads' HO_207001.out).2.1); rintro e w88 ⟨rfl, hb⟩; replace HO_207000 := xq HO_207000 hb; replace HO_207001 := xq HO_207001 hb; replace HO_214000 := xq HO_214000 hb; replace HO_214001 := xq HO_214001 hb; replace HO_222000 := xq HO_222000 hb; replace HO_222001 := xq HO_222001 hb; replace HO225 := xq HO225 hb; replace HO228 := xq HO228 hb; replace BK191 := xk BK191 hb; replace BK206 := xk BK206 hb; replace BK213 := xk BK213 hb; replace BK221 := xk BK221 hb; replace HB := xp HB hb; (try clear hb); (try clear hb2); (try clear hk); (try clear hi)))
          go_meet
          case rel => exact ⟨_, ((t220 != t205)), (by first | rfl | (simp; done) | (simp [*]; done)), H', ⟨by have := HJ13.out; first | omega | exact Nat.le_refl _⟩, ⟨xm HO_207000 (fun _ hk => ⟨hk.1, hk.2.1⟩)⟩, ⟨xm HO_207001 (fun _ hk => ⟨hk.1, hk.2.1⟩)⟩, ⟨xm HO_214000 (fun _ hk => ⟨hk.1.1, hk.1.2⟩)⟩, ⟨xm HO_214001 (fun _ hk => ⟨hk.1.1, hk.1.2⟩)⟩, ⟨xm HO_222000 (fun _ hk => ⟨hk.1, hk.2.1⟩)⟩, ⟨xm HO_222001 (fun _ hk => ⟨hk.1, hk.2.1⟩)⟩, ⟨xb BK191.out⟩, ⟨xb BK206.out⟩, ⟨xb BK213.out⟩, ⟨xb BK221.out⟩, ⟨xs HB.out⟩⟩
         ·replace c80 := Bool.eq_false_iff.mpr c80
          subst c80
          have H1 : (laws_FnExactRunShips.j1 kj13 a1 t205 true l0_0 l0_1 t199 t202 t214 t217) = some true := by first | (rw [if_neg (show ¬ (false = true) by decide)] at H; exact H) | rfl
          clear H
          have H := H1
          clear H1
          have H' := Aside0.mk H
          clear H
          have hnb89 := NB221_191.out
          have hnc89 := NB191_221.out
          have hnb90 := NB221_206.out
          have hnc90 := NB206_221.out
          have hnb91 := NB221_213.out
          have hnc91 := NB213_221.out
          have hcz92_0 : w77.cell? ⟨gb221, 0, none⟩ = some (.slice Ao38 t214.length co38) := (blk_cell BK221.out 0).trans rfl
          have hcz92_1 : w77.cell? ⟨gb221, 1, none⟩ = some (.slice Ao43 t217.length co43) := (blk_cell BK221.out 1).trans rfl
          have hfz92_0 := blk_frozen BK221.out 0
          have hfz92_1 := blk_frozen BK221.out 1
          have hnb93 := NB206_191.out
          have hnc93 := NB191_206.out
          have hnb94 := NB206_213.out
          have hnc94 := NB213_206.out
          have hcz95_0 : w77.cell? ⟨gb206, 0, none⟩ = some (.slice Ao24 t199.length co24) := (blk_cell BK206.out 0).trans rfl
          have hcz95_1 : w77.cell? ⟨gb206, 1, none⟩ = some (.slice Ao27 t202.length co27) := (blk_cell BK206.out 1).trans rfl
          have hfz95_0 := blk_frozen BK206.out 0
          have hfz95_1 := blk_frozen BK206.out 1
          go_wp2_with (first | (go_at_call 14; (with_reducible refine (laws_eqFlight.calls kj13 _ _ t214 _ _ t217 _ _ t199 _ _ t202 false _ ?side1 ?side2 ?side3 ?side4 ?side5 ?side6 ?side7 ?side8 A79.out).mono ?_); (case side1 => exact xd ((Kd.R_reads' HO_222000.out).2.2)); (case side2 => exact (Kd.R_reads' HO_222000.out).2.1); (case side3 => exact xd ((Kd.R_reads' HO_222001.out).2.2)); (case side4 => exact (Kd.R_reads' HO_222001.out).2.1); (case side5 => exact xd ((Kd.R_reads' HO_207000.out).2.2)); (case side6 => exact (Kd.R_reads' HO_207000.out).2.1); (case side7 => exact xd ((Kd.R_reads' HO_207001.out).2.2)); (case side8 => exact (Kd.R_reads' HO_207001.out).2.1); rintro e w96 ⟨rfl, hb⟩; replace HO_207000 := xq HO_207000 hb; replace HO_207001 := xq HO_207001 hb; replace HO_214000 := xq HO_214000 hb; replace HO_214001 := xq HO_214001 hb; replace HO_222000 := xq HO_222000 hb; replace HO_222001 := xq HO_222001 hb; replace HO225 := xq HO225 hb; replace HO228 := xq HO228 hb; replace BK191 := xk BK191 hb; replace BK206 := xk BK206 hb; replace BK213 := xk BK213 hb; replace BK221 := xk BK221 hb; replace HB := xp HB hb; (try clear hb); (try clear hb2); (try clear hk); (try clear hi)))
          go_meet
          case rel => exact ⟨_, (true), (by first | rfl | (simp; done) | (simp [*]; done)), H', ⟨by have := HJ13.out; first | omega | exact Nat.le_refl _⟩, ⟨xm HO_207000 (fun _ hk => ⟨hk.1, hk.2.1⟩)⟩, ⟨xm HO_207001 (fun _ hk => ⟨hk.1, hk.2.1⟩)⟩, ⟨xm HO_214000 (fun _ hk => ⟨hk.1.1, hk.1.2⟩)⟩, ⟨xm HO_214001 (fun _ hk => ⟨hk.1.1, hk.1.2⟩)⟩, ⟨xm HO_222000 (fun _ hk => ⟨hk.1, hk.2.1⟩)⟩, ⟨xm HO_222001 (fun _ hk => ⟨hk.1, hk.2.1⟩)⟩, ⟨xb BK191.out⟩, ⟨xb BK206.out⟩, ⟨xb BK213.out⟩, ⟨xb BK221.out⟩, ⟨xs HB.out⟩⟩
       case rest =>
        clear HC67
        try clear c1
        try clear c2
        try clear p2
        try clear c3
        try clear c3b0
        try clear c3b1
        try clear c4
        try clear c5
        try clear c6
        try clear c6b0
        try clear c7
        try clear c8
        try clear c9
        try clear c10
        try clear c12
        try clear c14
        try clear c18
        try clear c23
        try clear c24
        try clear c25
        try clear c32
        try clear c33
        try clear c39
        try clear c40
        try clear c41
        try clear c45
        try clear c46
        try clear c47
        try clear c48
        try clear c50
        try clear c51
        try clear c54
        try clear c55
        try clear c56
        try clear c58
        try clear c59
        try clear c62
        try clear c65
        try clear c73
        try clear c74
        try clear c75
        try clear c78
        try clear c78b0
        try clear c80
        try clear c81
        try clear c82
        try clear c83
        try clear c85
        try clear c86
        try clear c89
        try clear c90
        try clear c91
        try clear c93
        try clear c94
        try clear hcz16_0
        try clear hcz16_1
        try clear hcz18_0
        try clear hcz18_1
        try clear hcz26_0
        try clear hcz26_1
        try clear hcz28_0
        try clear hcz28_1
        try clear hcz34_0
        try clear hcz34_1
        try clear hcz42_0
        try clear hcz42_1
        try clear hcz49_0
        try clear hcz49_1
        try clear hcz52_0
        try clear hcz52_1
        try clear hcz57_0
        try clear hcz57_1
        try clear hcz60_0
        try clear hcz60_1
        try clear hcz76_0
        try clear hcz76_1
        try clear hcz84_0
        try clear hcz84_1
        try clear hcz87_0
        try clear hcz87_1
        try clear hcz8_0
        try clear hcz8_1
        try clear hcz92_0
        try clear hcz92_1
        try clear hcz95_0
        try clear hcz95_1
        try clear hfz16_0
        try clear hfz16_1
        try clear hfz18_0
        try clear hfz18_1
        try clear hfz26_0
        try clear hfz26_1
        try clear hfz28_0
        try clear hfz28_1
        try clear hfz34_0
        try clear hfz34_1
        try clear hfz42_0
        try clear hfz42_1
        try clear hfz49_0
        try clear hfz49_1
        try clear hfz52_0
        try clear hfz52_1
        try clear hfz57_0
        try clear hfz57_1
        try clear hfz60_0
        try clear hfz60_1
        try clear hfz76_0
        try clear hfz76_1
        try clear hfz84_0
        try clear hfz84_1
        try clear hfz87_0
        try clear hfz87_1
        try clear hfz8_0
        try clear hfz8_1
        try clear hfz92_0
        try clear hfz92_1
        try clear hfz95_0
        try clear hfz95_1
        try clear p2
        obtain ⟨kq, x68_66, rfl, HA, HJ66, HO_207000, HO_207001, HO_214000, HO_214001, HO_222000, HO_222001, BK191, BK206, BK213, BK221, HB⟩ := hcut
        have hl214000_66 := (Kd.R_reads' HO_214000.out).1
        rw [hl214000_66] at HO_214000
        (try simp only [hl214000_66])
        (try simp only [hl214000_66] at BK191)
        (try simp only [hl214000_66] at BK206)
        (try simp only [hl214000_66] at BK213)
        (try simp only [hl214000_66] at BK221)
        (try simp only [hl214000_66] at HO_207000)
        (try simp only [hl214000_66] at HO_207001)
        (try simp only [hl214000_66] at HO_214001)
        (try simp only [hl214000_66] at HO_222000)
        (try simp only [hl214000_66] at HO_222001)
        have hl214001_66 := (Kd.R_reads' HO_214001.out).1
        rw [hl214001_66] at HO_214001
        (try simp only [hl214001_66])
        (try simp only [hl214001_66] at BK191)
        (try simp only [hl214001_66] at BK206)
        (try simp only [hl214001_66] at BK213)
        (try simp only [hl214001_66] at BK221)
        (try simp only [hl214001_66] at HO_207000)
        (try simp only [hl214001_66] at HO_207001)
        (try simp only [hl214001_66] at HO_214000)
        (try simp only [hl214001_66] at HO_222000)
        (try simp only [hl214001_66] at HO_222001)
        cases kq with
        | zero => exact absurd HA.out (by simp [laws_FnExactRunShips.j1])
        | succ kj66 =>
         have H := HA.out
         clear HA
         simp only [laws_FnExactRunShips.j1] at H
         by_cases c97 : x68_66 = true
         ·subst c97
          have H1 : (some false) = some true := by first | (rw [if_pos rfl] at H; exact H) | rfl
          clear H
          have H := H1
          clear H1
          exact absurd H (by simp)
         ·replace c97 := Bool.eq_false_iff.mpr c97
          subst c97
          have H1 : ((laws_markFlight.f kj66 t214 t217 1).bind fun bt234 => ((laws_heldFlight.f kj66 bt234.2.1 bt234.2.2 1).bind fun t237 => (if t237 < 0 then (some false) else (if t237 = bt234.1 then ((laws_toFlight.f kj66 l0_0 l0_1).bind fun bt238 => ((impl_RunShips.f bt238.1 bt238.2 a1).bind fun bt244 => ((laws_eqFlight.f kj66 bt244.1 bt244.2.1 t199 t202).bind fun t252 => (if t252 = true then (laws_FnExactRunShips.j2 kj66 bt234.1 (bt244.2.2 != t205) bt234.2.1 bt234.2.2) else (laws_FnExactRunShips.j2 kj66 bt234.1 true bt234.2.1 bt234.2.2))))) else (some false))))) = some true := by first | (rw [if_neg (show ¬ (false = true) by decide)] at H; exact H) | rfl
          clear H
          have H := H1
          clear H1
          replace H := Option.bind_eq_some_iff.mp H
          obtain ⟨⟨t234, t235, t236⟩, A980, H⟩ := H
          replace H : ((laws_heldFlight.f kj66 t235 t236 1).bind fun t237 => (if t237 < 0 then (some false) else (if t237 = t234 then ((laws_toFlight.f kj66 l0_0 l0_1).bind fun bt238 => ((impl_RunShips.f bt238.1 bt238.2 a1).bind fun bt244 => ((laws_eqFlight.f kj66 bt244.1 bt244.2.1 t199 t202).bind fun t252 => (if t252 = true then (laws_FnExactRunShips.j2 kj66 t234 (bt244.2.2 != t205) t235 t236) else (laws_FnExactRunShips.j2 kj66 t234 true t235 t236))))) else (some false)))) = some true := H
          have A98 := Aside0.mk A980
          clear A980
          replace H := Option.bind_eq_some_iff.mp H
          obtain ⟨t237, A990, H⟩ := H
          replace H : (if t237 < 0 then (some false) else (if t237 = t234 then ((laws_toFlight.f kj66 l0_0 l0_1).bind fun bt238 => ((impl_RunShips.f bt238.1 bt238.2 a1).bind fun bt244 => ((laws_eqFlight.f kj66 bt244.1 bt244.2.1 t199 t202).bind fun t252 => (if t252 = true then (laws_FnExactRunShips.j2 kj66 t234 (bt244.2.2 != t205) t235 t236) else (laws_FnExactRunShips.j2 kj66 t234 true t235 t236))))) else (some false))) = some true := H
          have A99 := Aside0.mk A990
          clear A990
          by_cases c100 : t237 < 0
          ·rw [if_pos c100] at H
           have c100b0 : decide (t237 < 0) = true := decide_eq_true c100
           clear c100
           exact absurd H (by simp)
          ·rw [if_neg c100] at H
           have c100b0 : decide (t237 < 0) = false := decide_eq_false c100
           clear c100
           by_cases c101 : t237 = t234
           ·rw [if_pos c101] at H
            have c101b0 : (t237 == t234) = true := beq_iff_eq.mpr c101
            have c101b1 : (t237 != t234) = false := bne_eq_false_iff_eq.mpr c101
            clear c101
            replace H := Option.bind_eq_some_iff.mp H
            obtain ⟨⟨t238, t241⟩, A1020, H⟩ := H
            replace H : ((impl_RunShips.f t238 t241 a1).bind fun bt244 => ((laws_eqFlight.f kj66 bt244.1 bt244.2.1 t199 t202).bind fun t252 => (if t252 = true then (laws_FnExactRunShips.j2 kj66 t234 (bt244.2.2 != t205) t235 t236) else (laws_FnExactRunShips.j2 kj66 t234 true t235 t236)))) = some true := H
            have A102 := Aside0.mk A1020
            clear A1020
            replace H := Option.bind_eq_some_iff.mp H
            obtain ⟨⟨t244, t247, t250⟩, A1030, H⟩ := H
            replace H : ((laws_eqFlight.f kj66 t244 t247 t199 t202).bind fun t252 => (if t252 = true then (laws_FnExactRunShips.j2 kj66 t234 (t250 != t205) t235 t236) else (laws_FnExactRunShips.j2 kj66 t234 true t235 t236))) = some true := H
            have A103 := Aside0.mk A1030
            clear A1030
            have HC104 := Aside0.mk H
            clear H
            have hnb105 := NB221_191.out
            have hnc105 := NB191_221.out
            have hnb106 := NB221_206.out
            have hnc106 := NB206_221.out
            have hnb107 := NB221_213.out
            have hnc107 := NB213_221.out
            have hcz108_0 : wc.cell? ⟨gb221, 0, none⟩ = some (.slice Ao38 t214.length co38) := (blk_cell BK221.out 0).trans rfl
            have hcz108_1 : wc.cell? ⟨gb221, 1, none⟩ = some (.slice Ao43 t217.length co43) := (blk_cell BK221.out 1).trans rfl
            have hfz108_0 := blk_frozen BK221.out 0
            have hfz108_1 := blk_frozen BK221.out 1
            go_upto_region 27 with (first | ((with_reducible refine gate_callee (f := 18) rfl ?_); refine goesL_ (some 71) rfl rfl Tryd.func18 (by kernel_rfl) rfl #[.agg #[.slice Ao38 t214.length co38, .slice Ao43 t217.length co43], .int .i64 1] rfl (by (try simp only [List.map_toArray, List.map_cons, List.map_nil]); first | done | rfl | (simp only [List.length_drop, List.length_take]; rfl)) ?_; (with_reducible refine (laws_markFlight.calls kj66 (fun k_ => some k_ = (.slice Ao38 t214.length co38 : Value).ownBlock) (.slice Ao38 t214.length co38) t214 (fun k_ => some k_ = (.slice Ao43 t217.length co43 : Value).ownBlock) (.slice Ao43 t217.length co43) t217 1 t234 t235 t236 w _ ?side1 ?side2 ?side3 A98.out).mono ?_); (case side1 => repeat (first | (with_reducible first | exact HB.out | apply below_alloc | apply pw_below_drewN | apply below_drew1 | refine below_set ?_ GE191.out | refine below_set ?_ GE206.out | refine below_set ?_ GE213.out | refine below_set ?_ GE221.out) | exact HB.out)); (case side2 => exact Kd.R_tight rfl HO_222000.out); (case side3 => exact Kd.R_tight rfl HO_222001.out); rintro e w109 ⟨rfl, hy0, hy1, hb, hkp⟩; refine ⟨_, rfl, ?_⟩; replace HO_207000 := Aside0.mk (Kd.R_mono (ok' := fun k_ => nS k_ Ao31 t231.length co31 ∧ nS k_ Ao38 t214.length co38) (Kd.R_keptB ((Kd.R_apart' HO_207000.out (Kd.R_typed HO_222001.out) (by decide))) hkp (fun k_ hk_ hs_ => Or.elim hs_ (fun e_ => (hk_.1.2) e_) (fun e_ => (hk_.2) e_))) (fun k_ hk_ => ⟨hk_.1.1.1, hk_.1.1.2⟩)); replace HO_207001 := Aside0.mk (Kd.R_mono (ok' := fun k_ => nS k_ Ao35 t232.length co35 ∧ nS k_ Ao43 t217.length co43) (Kd.R_keptB ((Kd.R_apart' HO_207001.out (Kd.R_typed HO_222000.out) (by decide))) hkp (fun k_ hk_ hs_ => Or.elim hs_ (fun e_ => (hk_.2) e_) (fun e_ => (hk_.1.2) e_))) (fun k_ hk_ => ⟨hk_.1.1.1, hk_.1.1.2⟩)); replace HO_214000 := Aside0.mk (Kd.R_mono (ok' := fun k_ => nS k_ Ao24 t199.length co24 ∧ nS k_ Ao38 t214.length co38) (Kd.R_keptB ((Kd.R_apart' HO_214000.out (Kd.R_typed HO_222001.out) (by decide))) hkp (fun k_ hk_ hs_ => Or.elim hs_ (fun e_ => (hk_.1.2) e_) (fun e_ => (hk_.2) e_))) (fun k_ hk_ => ⟨hk_.1.1.1, hk_.1.1.2⟩)); replace HO_214001 := Aside0.mk (Kd.R_mono (ok' := fun k_ => nS k_ Ao27 t202.length co27 ∧ nS k_ Ao43 t217.length co43) (Kd.R_keptB ((Kd.R_apart' HO_214001.out (Kd.R_typed HO_222000.out) (by decide))) hkp (fun k_ hk_ hs_ => Or.elim hs_ (fun e_ => (hk_.2) e_) (fun e_ => (hk_.1.2) e_))) (fun k_ hk_ => ⟨hk_.1.1.1, hk_.1.1.2⟩)); replace BK191 := Aside0.mk (blk_kept (xb BK191.out) hkp (fun hs_ => Or.elim hs_ (fun e_ => (fun e_ => (Kd.R_ne HO_222000.out BK191.out (by decide)) e_) e_) (fun e_ => (fun e_ => (Kd.R_ne HO_222001.out BK191.out (by decide)) e_) e_))); replace BK206 := Aside0.mk (blk_kept (xb BK206.out) hkp (fun hs_ => Or.elim hs_ (fun e_ => (fun e_ => (Kd.R_ne HO_222000.out BK206.out (by decide)) e_) e_) (fun e_ => (fun e_ => (Kd.R_ne HO_222001.out BK206.out (by decide)) e_) e_))); replace BK213 := Aside0.mk (blk_kept (xb BK213.out) hkp (fun hs_ => Or.elim hs_ (fun e_ => (fun e_ => (Kd.R_ne HO_222000.out BK213.out (by decide)) e_) e_) (fun e_ => (fun e_ => (Kd.R_ne HO_222001.out BK213.out (by decide)) e_) e_))); replace BK221 := Aside0.mk (blk_kept (xb BK221.out) hkp (fun hs_ => Or.elim hs_ (fun e_ => (fun e_ => (Kd.R_ne HO_222000.out BK221.out (by decide)) e_) e_) (fun e_ => (fun e_ => (Kd.R_ne HO_222001.out BK221.out (by decide)) e_) e_))); replace HO_222000 := Aside0.mk (Kd.R_reok rfl hy0 (fun k_ e_ => HO_222000.out.1 k_ e_)); replace HO_222001 := Aside0.mk (Kd.R_reok rfl hy1 (fun k_ e_ => HO_222001.out.1 k_ e_)); replace HB := Aside0.mk (hb); (try clear hb); (try clear hkp); (try clear hy0); (try clear hy1); have hcz110_0 : w109.cell? ⟨gb221, 0, none⟩ = some (.slice Ao38 t214.length co38) := (blk_cell BK221.out 0).trans rfl; have hcz110_1 : w109.cell? ⟨gb221, 1, none⟩ = some (.slice Ao43 t217.length co43) := (blk_cell BK221.out 1).trans rfl; have hfz110_0 := blk_frozen BK221.out 0; have hfz110_1 := blk_frozen BK221.out 1) | ((with_reducible refine gate_callee (f := 25) rfl ?_); refine goesL_ (some 74) rfl rfl Tryd.func25 (by kernel_rfl) rfl #[.agg #[.slice Ao38 t235.length co38, .slice Ao43 t236.length co43], .int .i64 1] rfl (by (try simp only [List.map_toArray, List.map_cons, List.map_nil]); first | done | (rw [show t235.length = t214.length from (Kd.R_reads' HO_222000.out).1.symm, show t236.length = t217.length from (Kd.R_reads' HO_222001.out).1.symm] <;> rfl) | rfl | (simp only [List.length_drop, List.length_take]; rfl)) ?_; (with_reducible refine (laws_heldFlight.calls kj66 _ _ t235 _ _ t236 1 t237 _ ?side1 ?side2 ?side3 ?side4 A99.out).mono ?_); (case side1 => exact xd ((Kd.R_reads' HO_222000.out).2.2)); (case side2 => rw [show t235.length = t214.length from (Kd.R_reads' HO_222000.out).1.symm]; exact (Kd.R_reads' HO_222000.out).2.1); (case side3 => exact xd ((Kd.R_reads' HO_222001.out).2.2)); (case side4 => rw [show t236.length = t217.length from (Kd.R_reads' HO_222001.out).1.symm]; exact (Kd.R_reads' HO_222001.out).2.1); rintro e w111 ⟨rfl, hb⟩; refine ⟨_, rfl, ?_⟩; replace HO_207000 := xq HO_207000 hb; replace HO_207001 := xq HO_207001 hb; replace HO_214000 := xq HO_214000 hb; replace HO_214001 := xq HO_214001 hb; replace HO_222000 := xq HO_222000 hb; replace HO_222001 := xq HO_222001 hb; replace BK191 := xk BK191 hb; replace BK206 := xk BK206 hb; replace BK213 := xk BK213 hb; replace BK221 := xk BK221 hb; replace HB := xp HB hb; (try clear hb); (try clear hb2); (try clear hk); (try clear hi); have hnb112 := NB191_206.out; have hnc112 := NB206_191.out; have hnb113 := NB191_213.out; have hnc113 := NB213_191.out; have hcz114_0 : w111.cell? ⟨gb191, 0, none⟩ = some (.slice A0_0 l0_0.length c0_0) := (blk_cell BK191.out 0).trans rfl; have hcz114_1 : w111.cell? ⟨gb191, 1, none⟩ = some (.slice A0_1 l0_1.length c0_1) := (blk_cell BK191.out 1).trans rfl; have hfz114_0 := blk_frozen BK191.out 0; have hfz114_1 := blk_frozen BK191.out 1) | ((with_reducible refine gate_callee (f := 12) rfl ?_); refine goesL_ (some 82) rfl rfl Tryd.func12 (by kernel_rfl) rfl #[.agg #[.slice A0_0 l0_0.length c0_0, .slice A0_1 l0_1.length c0_1]] rfl (by (try simp only [List.map_toArray, List.map_cons, List.map_nil]); first | done | rfl | (simp only [List.length_drop, List.length_take]; rfl)) ?_; (with_reducible refine (laws_toFlight.calls kj66 _ _ l0_0 _ _ l0_1 t238 t241 _ ?side1 ?side2 ?side3 ?side4 A102.out).mono ?_); (case side1 => exact xd ((Kd.C_below HR0_0.out HB.out))); (case side2 => exact HC0_0.out); (case side3 => exact xd ((Kd.C_below HR0_1.out HB.out))); (case side4 => exact HC0_1.out); rintro e w115 ⟨v239, v242, rfl, ho0, ho1, hb⟩; refine ⟨_, rfl, ?_⟩; have HO240 := Aside0.mk (Kd.R_lower (Kd.R_new' (Kd.R_new' (Kd.R_new' ho0 (Kd.R_lt (xr HO_207000.out))) (Kd.R_lt (xr HO_214000.out))) (Kd.R_lt (xr HO_222000.out))) (below_size (xs HB.out))); replace HO_207000 := Aside0.mk (Kd.R_elder' (xr HO_207000.out) (Kd.R_base ho0) hb); replace HO_214000 := Aside0.mk (Kd.R_elder' (xr HO_214000.out) (Kd.R_base ho0) hb); replace HO_222000 := Aside0.mk (Kd.R_elder' (xr HO_222000.out) (Kd.R_base ho0) hb); have HO243 := Aside0.mk (Kd.R_lower (Kd.R_new' (Kd.R_new' (Kd.R_new' ho1 (Kd.R_lt (xr HO_207001.out))) (Kd.R_lt (xr HO_214001.out))) (Kd.R_lt (xr HO_222001.out))) (below_size (xs HB.out))); replace HO_207001 := Aside0.mk (Kd.R_elder' (xr HO_207001.out) (Kd.R_base ho1) hb); replace HO_214001 := Aside0.mk (Kd.R_elder' (xr HO_214001.out) (Kd.R_base ho1) hb); replace HO_222001 := Aside0.mk (Kd.R_elder' (xr HO_222001.out) (Kd.R_base ho1) hb); replace BK191 := xk BK191 hb; replace BK206 := xk BK206 hb; replace BK213 := xk BK213 hb; replace BK221 := xk BK221 hb; replace HB := xp HB hb; (try clear hb); (try clear hb2); (try clear hk); (try clear hi); (try clear ho0); (try clear ho1); obtain ⟨Ao116, co116, eo116⟩ := Kd.R_slice HO240.out; subst eo116; obtain ⟨Ao117, co117, eo117⟩ := Kd.R_slice HO243.out; subst eo117) | ((with_reducible refine gate_callee (f := 24) rfl ?_); refine goesL_ (some 84) rfl rfl Tryd.func24 (by kernel_rfl) rfl #[.agg #[.slice Ao116 t238.length co116, .slice Ao117 t241.length co117], .string a1] rfl (by (try simp only [List.map_toArray, List.map_cons, List.map_nil]); first | done | rfl | (simp only [List.length_drop, List.length_take]; rfl)) ?_; (with_reducible refine (impl_RunShips.calls _ _ t238 _ _ t241 a1 t244 t247 t250 _ ?side1 ?side2 ?side3 ?side4 A103.out).mono ?_); (case side1 => exact xd ((Kd.R_reads' HO240.out).2.2)); (case side2 => exact (Kd.R_reads' HO240.out).2.1); (case side3 => exact xd ((Kd.R_reads' HO243.out).2.2)); (case side4 => exact (Kd.R_reads' HO243.out).2.1); rintro e w118 ⟨v245, v248, rfl, ho0, ho1, hb⟩; refine ⟨_, rfl, ?_⟩; have HO246 := Aside0.mk (Kd.R_lower (Kd.R_new' (Kd.R_new' (Kd.R_new' (Kd.R_new' ho0 (Kd.R_lt (xr HO_207000.out))) (Kd.R_lt (xr HO_214000.out))) (Kd.R_lt (xr HO_222000.out))) (Kd.R_lt (xr HO240.out))) (below_size (xs HB.out))); replace HO_207000 := Aside0.mk (Kd.R_elder' (xr HO_207000.out) (Kd.R_base ho0) hb); replace HO_214000 := Aside0.mk (Kd.R_elder' (xr HO_214000.out) (Kd.R_base ho0) hb); replace HO_222000 := Aside0.mk (Kd.R_elder' (xr HO_222000.out) (Kd.R_base ho0) hb); replace HO240 := Aside0.mk (Kd.R_elder' (xr HO240.out) (Kd.R_base ho0) hb); have HO249 := Aside0.mk (Kd.R_lower (Kd.R_new' (Kd.R_new' (Kd.R_new' (Kd.R_new' ho1 (Kd.R_lt (xr HO_207001.out))) (Kd.R_lt (xr HO_214001.out))) (Kd.R_lt (xr HO_222001.out))) (Kd.R_lt (xr HO243.out))) (below_size (xs HB.out))); replace HO_207001 := Aside0.mk (Kd.R_elder' (xr HO_207001.out) (Kd.R_base ho1) hb); replace HO_214001 := Aside0.mk (Kd.R_elder' (xr HO_214001.out) (Kd.R_base ho1) hb); replace HO_222001 := Aside0.mk (Kd.R_elder' (xr HO_222001.out) (Kd.R_base ho1) hb); replace HO243 := Aside0.mk (Kd.R_elder' (xr HO243.out) (Kd.R_base ho1) hb); replace BK191 := xk BK191 hb; replace BK206 := xk BK206 hb; replace BK213 := xk BK213 hb; replace BK221 := xk BK221 hb; replace HB := xp HB hb; (try clear hb); (try clear hb2); (try clear hk); (try clear hi); (try clear ho0); (try clear ho1)) | ((with_reducible refine gate_dst (N := 14) rfl ?_); refine box_event ?hg (N := 14) ?hd (cs := #[.slice none 0 0, .slice none 0 0]) (t := 30) ?hr ?_; (case hd => rfl); (case hg => rfl); (case hr => first | (go_simp; done) | (go_simp; rfl)); intro gb251 hg w119 hbox hb; replace HO_207000 := xq HO_207000 hb; replace HO_207001 := xq HO_207001 hb; replace HO_214000 := xq HO_214000 hb; replace HO_214001 := xq HO_214001 hb; replace HO_222000 := xq HO_222000 hb; replace HO_222001 := xq HO_222001 hb; replace HO240 := xq HO240 hb; replace HO243 := xq HO243 hb; replace HO246 := xq HO246 hb; replace HO249 := xq HO249 hb; have BK251 := Aside0.mk (hbox); have GW251 := xg HB hg; have GE251 := xg HB hg; replace HB := xp HB hb; have NB191_251 := xl BK191 hg; have NB251_191 := xh BK191 hg; replace BK191 := xk BK191 hb; have NB206_251 := xl BK206 hg; have NB251_206 := xh BK206 hg; replace BK206 := xk BK206 hb; have NB213_251 := xl BK213 hg; have NB251_213 := xh BK213 hg; replace BK213 := xk BK213 hb; have NB221_251 := xl BK221 hg; have NB251_221 := xh BK221 hg; replace BK221 := xk BK221 hb; clear hb hbox hg; obtain ⟨Ao120, co120, eo120⟩ := Kd.R_slice HO246.out; subst eo120; have hnb121 := NB251_191.out; have hnc121 := NB191_251.out; have hnb122 := NB251_206.out; have hnc122 := NB206_251.out; have hnb123 := NB251_213.out; have hnc123 := NB213_251.out; have hnb124 := NB251_221.out; have hnc124 := NB221_251.out; have hcz125_0 : w119.cell? ⟨gb251, 0, none⟩ = some (.slice none 0 0) := (blk_cell BK251.out 0).trans rfl; have hcz125_1 : w119.cell? ⟨gb251, 1, none⟩ = some (.slice none 0 0) := (blk_cell BK251.out 1).trans rfl; have hfz125_0 := blk_frozen BK251.out 0; have hfz125_1 := blk_frozen BK251.out 1; obtain ⟨Ao126, co126, eo126⟩ := Kd.R_slice HO249.out; subst eo126))
            (try simp only [Act.put, List.setIfInBounds_toArray, List.set_cons_zero, List.set_cons_succ])
            go_cut [95] (fun v95 wc => ∃ (kq : Nat) (x95_103 : Bool), v95 = .bool x95_103 ∧ Aside0 (laws_FnExactRunShips.j2 kq t234 x95_103 t235 t236 = some true) ∧ Aside0 (kq ≤ kj66) ∧ Aside0 (Kd.R (Kd.int .i64) 3 wc w.heap.size (fun k_ => nS k_ Ao31 t231.length co31 ∧ nS k_ Ao38 t214.length co38 ∧ nS k_ Ao120 t244.length co120) (.slice Ao24 t199.length co24) t199) ∧ Aside0 (Kd.R Kd.bool 4 wc w.heap.size (fun k_ => nS k_ Ao35 t232.length co35 ∧ nS k_ Ao43 t217.length co43 ∧ nS k_ Ao126 t247.length co126) (.slice Ao27 t202.length co27) t202) ∧ Aside0 (Kd.R (Kd.int .i64) 3 wc w.heap.size (fun k_ => nS k_ Ao24 t199.length co24 ∧ nS k_ Ao38 t214.length co38 ∧ nS k_ Ao120 t244.length co120) (.slice Ao31 t231.length co31) t231) ∧ Aside0 (Kd.R Kd.bool 4 wc w.heap.size (fun k_ => nS k_ Ao27 t202.length co27 ∧ nS k_ Ao43 t217.length co43 ∧ nS k_ Ao126 t247.length co126) (.slice Ao35 t232.length co35) t232) ∧ Aside0 (Kd.R (Kd.int .i64) 3 wc w.heap.size (fun k_ => nS k_ Ao24 t199.length co24 ∧ nS k_ Ao31 t231.length co31 ∧ nS k_ Ao120 t244.length co120) (.slice Ao38 t214.length co38) t235) ∧ Aside0 (Kd.R Kd.bool 4 wc w.heap.size (fun k_ => nS k_ Ao27 t202.length co27 ∧ nS k_ Ao35 t232.length co35 ∧ nS k_ Ao126 t247.length co126) (.slice Ao43 t217.length co43) t236) ∧ Aside0 (Kd.R (Kd.int .i64) 3 wc w.heap.size (fun k_ => nS k_ Ao24 t199.length co24 ∧ nS k_ Ao31 t231.length co31 ∧ nS k_ Ao38 t214.length co38) (.slice Ao120 t244.length co120) t244) ∧ Aside0 (Kd.R Kd.bool 4 wc w.heap.size (fun k_ => nS k_ Ao27 t202.length co27 ∧ nS k_ Ao35 t232.length co35 ∧ nS k_ Ao43 t217.length co43) (.slice Ao126 t247.length co126) t247) ∧ Aside0 (wc.heap[gb191]? = some (.cells #[(.slice A0_0 l0_0.length c0_0), (.slice A0_1 l0_1.length c0_1)] 26 (0, 0))) ∧ Aside0 (wc.heap[gb206]? = some (.cells #[(.slice Ao24 t199.length co24), (.slice Ao27 t202.length co27)] 30 (0, 0))) ∧ Aside0 (wc.heap[gb213]? = some (.cells #[(.slice Ao31 t231.length co31), (.slice Ao35 t232.length co35)] 30 (0, 0))) ∧ Aside0 (wc.heap[gb221]? = some (.cells #[(.slice Ao38 t214.length co38), (.slice Ao43 t217.length co43)] 30 (0, 0))) ∧ Aside0 (wc.heap[gb251]? = some (.cells #[(.slice Ao120 t244.length co120), (.slice Ao126 t247.length co126)] 30 (0, 0))) ∧ Aside0 (Below w.heap.size w wc))
            case first =>
             have H := HC104.out
             clear HC104
             replace H := Option.bind_eq_some_iff.mp H
             obtain ⟨t252, A1270, H⟩ := H
             replace H : (if t252 = true then (laws_FnExactRunShips.j2 kj66 t234 (t250 != t205) t235 t236) else (laws_FnExactRunShips.j2 kj66 t234 true t235 t236)) = some true := H
             have A127 := Aside0.mk A1270
             clear A1270
             by_cases c128 : t252 = true
             ·subst c128
              have H1 : (laws_FnExactRunShips.j2 kj66 t234 (t250 != t205) t235 t236) = some true := by first | (rw [if_pos rfl] at H; exact H) | rfl
              clear H
              have H := H1
              clear H1
              have H' := Aside0.mk H
              clear H
              have hnb129 := NB251_191.out
              have hnc129 := NB191_251.out
              have hnb130 := NB251_206.out
              have hnc130 := NB206_251.out
              have hnb131 := NB251_213.out
              have hnc131 := NB213_251.out
              have hnb132 := NB251_221.out
              have hnc132 := NB221_251.out
              have hcz133_0 : w119.cell? ⟨gb251, 0, none⟩ = some (.slice none 0 0) := (blk_cell BK251.out 0).trans rfl
              have hcz133_1 : w119.cell? ⟨gb251, 1, none⟩ = some (.slice none 0 0) := (blk_cell BK251.out 1).trans rfl
              have hfz133_0 := blk_frozen BK251.out 0
              have hfz133_1 := blk_frozen BK251.out 1
              have hnb134 := NB206_191.out
              have hnc134 := NB191_206.out
              have hnb135 := NB206_213.out
              have hnc135 := NB213_206.out
              have hnb136 := NB206_221.out
              have hnc136 := NB221_206.out
              have hcz137_0 : w119.cell? ⟨gb206, 0, none⟩ = some (.slice Ao24 t199.length co24) := (blk_cell BK206.out 0).trans rfl
              have hcz137_1 : w119.cell? ⟨gb206, 1, none⟩ = some (.slice Ao27 t202.length co27) := (blk_cell BK206.out 1).trans rfl
              have hfz137_0 := blk_frozen BK206.out 0
              have hfz137_1 := blk_frozen BK206.out 1
              go_wp2_with (first | ((with_reducible refine gate_callee (f := 14) rfl ?_); refine goesL_ (some 89) rfl rfl Tryd.func14 (by kernel_rfl) rfl #[.agg #[.slice Ao120 t244.length co120, .slice Ao126 t247.length co126], .agg #[.slice Ao24 t199.length co24, .slice Ao27 t202.length co27]] rfl (by (try simp only [List.map_toArray, List.map_cons, List.map_nil]); first | done | rfl | (simp only [List.length_drop, List.length_take]; rfl)) ?_; (with_reducible refine (laws_eqFlight.calls kj66 _ _ t244 _ _ t247 _ _ t199 _ _ t202 true _ ?side1 ?side2 ?side3 ?side4 ?side5 ?side6 ?side7 ?side8 A127.out).mono ?_); (case side1 => refine (Kd.R_reads' (e := 3) (base := w.heap.size) (ok := fun k_ => ((((True ∧ nS k_ Ao24 t199.length co24) ∧ nS k_ Ao31 t231.length co31) ∧ nS k_ Ao38 t214.length co38) ∧ nS k_ Ao116 t238.length co116)) (n := t244.length) (c := co120) ?_).2.2; exact (by (with_reducible repeat (first | apply Kd.R_alloc | apply Kd.R_drewN | apply Kd.R_drew)); exact (Kd.R_mono (Kd.R_far (p := ⟨gb251, 1, none⟩) (Kd.R_far (p := ⟨gb251, 0, none⟩) (Kd.R_types HO246.out BK251.out (by decide)) (fun _ hk => hk.2) (.slice Ao120 t244.length co120)) (fun _ hk => hk.2) (.slice Ao126 t247.length co126)) (fun _ h_ => h_.1)))); (case side2 => exact (Kd.R_reads' HO246.out).2.1); (case side3 => refine (Kd.R_reads' (e := 4) (base := w.heap.size) (ok := fun k_ => ((((True ∧ nS k_ Ao27 t202.length co27) ∧ nS k_ Ao35 t232.length co35) ∧ nS k_ Ao43 t217.length co43) ∧ nS k_ Ao117 t241.length co117)) (n := t247.length) (c := co126) ?_).2.2; exact (by (with_reducible repeat (first | apply Kd.R_alloc | apply Kd.R_drewN | apply Kd.R_drew)); exact (Kd.R_mono (Kd.R_far (p := ⟨gb251, 1, none⟩) (Kd.R_far (p := ⟨gb251, 0, none⟩) (Kd.R_types HO249.out BK251.out (by decide)) (fun _ hk => hk.2) (.slice Ao120 t244.length co120)) (fun _ hk => hk.2) (.slice Ao126 t247.length co126)) (fun _ h_ => h_.1)))); (case side4 => exact (Kd.R_reads' HO249.out).2.1); (case side5 => refine (Kd.R_reads' (e := 3) (base := w.heap.size) (ok := fun k_ => (((nS k_ Ao31 t231.length co31 ∧ nS k_ Ao38 t214.length co38) ∧ nS k_ Ao116 t238.length co116) ∧ nS k_ Ao120 t244.length co120)) (n := t199.length) (c := co24) ?_).2.2; exact (by (with_reducible repeat (first | apply Kd.R_alloc | apply Kd.R_drewN | apply Kd.R_drew)); exact (Kd.R_mono (Kd.R_far (p := ⟨gb251, 1, none⟩) (Kd.R_far (p := ⟨gb251, 0, none⟩) (Kd.R_types HO_207000.out BK251.out (by decide)) (fun _ hk => hk.2) (.slice Ao120 t244.length co120)) (fun _ hk => hk.2) (.slice Ao126 t247.length co126)) (fun _ h_ => h_.1)))); (case side6 => exact (Kd.R_reads' HO_207000.out).2.1); (case side7 => refine (Kd.R_reads' (e := 4) (base := w.heap.size) (ok := fun k_ => (((nS k_ Ao35 t232.length co35 ∧ nS k_ Ao43 t217.length co43) ∧ nS k_ Ao117 t241.length co117) ∧ nS k_ Ao126 t247.length co126)) (n := t202.length) (c := co27) ?_).2.2; exact (by (with_reducible repeat (first | apply Kd.R_alloc | apply Kd.R_drewN | apply Kd.R_drew)); exact (Kd.R_mono (Kd.R_far (p := ⟨gb251, 1, none⟩) (Kd.R_far (p := ⟨gb251, 0, none⟩) (Kd.R_types HO_207001.out BK251.out (by decide)) (fun _ hk => hk.2) (.slice Ao120 t244.length co120)) (fun _ hk => hk.2) (.slice Ao126 t247.length co126)) (fun _ h_ => h_.1)))); (case side8 => exact (Kd.R_reads' HO_207001.out).2.1); rintro e w138 ⟨rfl, hb⟩; refine ⟨_, rfl, ?_⟩; replace HO_207000 := Aside0.mk (Kd.R_below (by (with_reducible repeat (first | apply Kd.R_alloc | apply Kd.R_drewN | apply Kd.R_drew)); exact (Kd.R_mono (Kd.R_far (p := ⟨gb251, 1, none⟩) (Kd.R_far (p := ⟨gb251, 0, none⟩) (Kd.R_types HO_207000.out BK251.out (by decide)) (fun _ hk => hk.2) (.slice Ao120 t244.length co120)) (fun _ hk => hk.2) (.slice Ao126 t247.length co126)) (fun _ h_ => h_.1))) hb); replace HO_207001 := Aside0.mk (Kd.R_below (by (with_reducible repeat (first | apply Kd.R_alloc | apply Kd.R_drewN | apply Kd.R_drew)); exact (Kd.R_mono (Kd.R_far (p := ⟨gb251, 1, none⟩) (Kd.R_far (p := ⟨gb251, 0, none⟩) (Kd.R_types HO_207001.out BK251.out (by decide)) (fun _ hk => hk.2) (.slice Ao120 t244.length co120)) (fun _ hk => hk.2) (.slice Ao126 t247.length co126)) (fun _ h_ => h_.1))) hb); replace HO_214000 := Aside0.mk (Kd.R_below (by (with_reducible repeat (first | apply Kd.R_alloc | apply Kd.R_drewN | apply Kd.R_drew)); exact (Kd.R_mono (Kd.R_far (p := ⟨gb251, 1, none⟩) (Kd.R_far (p := ⟨gb251, 0, none⟩) (Kd.R_types HO_214000.out BK251.out (by decide)) (fun _ hk => hk.2) (.slice Ao120 t244.length co120)) (fun _ hk => hk.2) (.slice Ao126 t247.length co126)) (fun _ h_ => h_.1))) hb); replace HO_214001 := Aside0.mk (Kd.R_below (by (with_reducible repeat (first | apply Kd.R_alloc | apply Kd.R_drewN | apply Kd.R_drew)); exact (Kd.R_mono (Kd.R_far (p := ⟨gb251, 1, none⟩) (Kd.R_far (p := ⟨gb251, 0, none⟩) (Kd.R_types HO_214001.out BK251.out (by decide)) (fun _ hk => hk.2) (.slice Ao120 t244.length co120)) (fun _ hk => hk.2) (.slice Ao126 t247.length co126)) (fun _ h_ => h_.1))) hb); replace HO_222000 := Aside0.mk (Kd.R_below (by (with_reducible repeat (first | apply Kd.R_alloc | apply Kd.R_drewN | apply Kd.R_drew)); exact (Kd.R_mono (Kd.R_far (p := ⟨gb251, 1, none⟩) (Kd.R_far (p := ⟨gb251, 0, none⟩) (Kd.R_types HO_222000.out BK251.out (by decide)) (fun _ hk => hk.2) (.slice Ao120 t244.length co120)) (fun _ hk => hk.2) (.slice Ao126 t247.length co126)) (fun _ h_ => h_.1))) hb); replace HO_222001 := Aside0.mk (Kd.R_below (by (with_reducible repeat (first | apply Kd.R_alloc | apply Kd.R_drewN | apply Kd.R_drew)); exact (Kd.R_mono (Kd.R_far (p := ⟨gb251, 1, none⟩) (Kd.R_far (p := ⟨gb251, 0, none⟩) (Kd.R_types HO_222001.out BK251.out (by decide)) (fun _ hk => hk.2) (.slice Ao120 t244.length co120)) (fun _ hk => hk.2) (.slice Ao126 t247.length co126)) (fun _ h_ => h_.1))) hb); replace HO240 := Aside0.mk (Kd.R_below (by (with_reducible repeat (first | apply Kd.R_alloc | apply Kd.R_drewN | apply Kd.R_drew)); exact (Kd.R_mono (Kd.R_far (p := ⟨gb251, 1, none⟩) (Kd.R_far (p := ⟨gb251, 0, none⟩) (Kd.R_types HO240.out BK251.out (by decide)) (fun _ hk => hk.2) (.slice Ao120 t244.length co120)) (fun _ hk => hk.2) (.slice Ao126 t247.length co126)) (fun _ h_ => h_.1))) hb); replace HO243 := Aside0.mk (Kd.R_below (by (with_reducible repeat (first | apply Kd.R_alloc | apply Kd.R_drewN | apply Kd.R_drew)); exact (Kd.R_mono (Kd.R_far (p := ⟨gb251, 1, none⟩) (Kd.R_far (p := ⟨gb251, 0, none⟩) (Kd.R_types HO243.out BK251.out (by decide)) (fun _ hk => hk.2) (.slice Ao120 t244.length co120)) (fun _ hk => hk.2) (.slice Ao126 t247.length co126)) (fun _ h_ => h_.1))) hb); replace HO246 := Aside0.mk (Kd.R_below (by (with_reducible repeat (first | apply Kd.R_alloc | apply Kd.R_drewN | apply Kd.R_drew)); exact (Kd.R_mono (Kd.R_far (p := ⟨gb251, 1, none⟩) (Kd.R_far (p := ⟨gb251, 0, none⟩) (Kd.R_types HO246.out BK251.out (by decide)) (fun _ hk => hk.2) (.slice Ao120 t244.length co120)) (fun _ hk => hk.2) (.slice Ao126 t247.length co126)) (fun _ h_ => h_.1))) hb); replace HO249 := Aside0.mk (Kd.R_below (by (with_reducible repeat (first | apply Kd.R_alloc | apply Kd.R_drewN | apply Kd.R_drew)); exact (Kd.R_mono (Kd.R_far (p := ⟨gb251, 1, none⟩) (Kd.R_far (p := ⟨gb251, 0, none⟩) (Kd.R_types HO249.out BK251.out (by decide)) (fun _ hk => hk.2) (.slice Ao120 t244.length co120)) (fun _ hk => hk.2) (.slice Ao126 t247.length co126)) (fun _ h_ => h_.1))) hb); replace BK191 := Aside0.mk (blk_below (g := gb191) (o := .cells #[.slice A0_0 l0_0.length c0_0, .slice A0_1 l0_1.length c0_1] 26 (0, 0)) (xff NB191_251.out NB191_251.out BK191.out) hb); replace BK206 := Aside0.mk (blk_below (g := gb206) (o := .cells #[.slice Ao24 t199.length co24, .slice Ao27 t202.length co27] 30 (0, 0)) (xff NB206_251.out NB206_251.out BK206.out) hb); replace BK213 := Aside0.mk (blk_below (g := gb213) (o := .cells #[.slice Ao31 t231.length co31, .slice Ao35 t232.length co35] 30 (0, 0)) (xff NB213_251.out NB213_251.out BK213.out) hb); replace BK221 := Aside0.mk (blk_below (g := gb221) (o := .cells #[.slice Ao38 t214.length co38, .slice Ao43 t217.length co43] 30 (0, 0)) (xff NB221_251.out NB221_251.out BK221.out) hb); replace BK251 := Aside0.mk (blk_below (g := gb251) (o := .cells #[.slice Ao120 t244.length co120, .slice Ao126 t247.length co126] 30 (0, 0)) (by (with_reducible repeat (first | refine blk_drewN ?_ _ | refine blk_drew ?_ | refine blk_alloc ?_ _)); refine blk_put (cs := #[.slice Ao120 t244.length co120, .slice none 0 0]) ?_ 1 _ rfl; (with_reducible repeat (first | refine blk_drewN ?_ _ | refine blk_drew ?_ | refine blk_alloc ?_ _)); refine blk_put (cs := #[.slice none 0 0, .slice none 0 0]) ?_ 0 _ rfl; (with_reducible repeat (first | refine blk_drewN ?_ _ | refine blk_drew ?_ | refine blk_alloc ?_ _)); exact BK251.out) hb); replace HB := xp HB hb; (try clear hb); (try clear hb2); (try clear hk); (try clear hi)))
              go_meet
              case rel => exact ⟨_, ((t250 != t205)), (by first | rfl | (simp; done) | (simp [*]; done)), H', ⟨by have := HJ13.out; have := HJ66.out; first | omega | exact Nat.le_refl _⟩, ⟨by (try simp only [hl214000_66]); (try simp only [hl214001_66]); (with_reducible repeat (first | apply Kd.R_alloc | apply Kd.R_drewN | apply Kd.R_drew)); exact Kd.R_mono HO_207000.out (fun _ hk => ⟨hk.1.1.1, ⟨hk.1.1.2, hk.2⟩⟩)⟩, ⟨by (try simp only [hl214000_66]); (try simp only [hl214001_66]); (with_reducible repeat (first | apply Kd.R_alloc | apply Kd.R_drewN | apply Kd.R_drew)); exact Kd.R_mono HO_207001.out (fun _ hk => ⟨hk.1.1.1, ⟨hk.1.1.2, hk.2⟩⟩)⟩, ⟨by (try simp only [hl214000_66]); (try simp only [hl214001_66]); (with_reducible repeat (first | apply Kd.R_alloc | apply Kd.R_drewN | apply Kd.R_drew)); exact Kd.R_mono HO_214000.out (fun _ hk => ⟨hk.1.1.1, ⟨hk.1.1.2, hk.2⟩⟩)⟩, ⟨by (try simp only [hl214000_66]); (try simp only [hl214001_66]); (with_reducible repeat (first | apply Kd.R_alloc | apply Kd.R_drewN | apply Kd.R_drew)); exact Kd.R_mono HO_214001.out (fun _ hk => ⟨hk.1.1.1, ⟨hk.1.1.2, hk.2⟩⟩)⟩, ⟨by (try simp only [hl214000_66]); (try simp only [hl214001_66]); (with_reducible repeat (first | apply Kd.R_alloc | apply Kd.R_drewN | apply Kd.R_drew)); exact Kd.R_mono HO_222000.out (fun _ hk => ⟨hk.1.1.1, ⟨hk.1.1.2, hk.2⟩⟩)⟩, ⟨by (try simp only [hl214000_66]); (try simp only [hl214001_66]); (with_reducible repeat (first | apply Kd.R_alloc | apply Kd.R_drewN | apply Kd.R_drew)); exact Kd.R_mono HO_222001.out (fun _ hk => ⟨hk.1.1.1, ⟨hk.1.1.2, hk.2⟩⟩)⟩, ⟨by (try simp only [hl214000_66]); (try simp only [hl214001_66]); (with_reducible repeat (first | apply Kd.R_alloc | apply Kd.R_drewN | apply Kd.R_drew)); exact Kd.R_mono HO246.out (fun _ hk => ⟨hk.1.1.1.2, ⟨hk.1.1.2, hk.1.2⟩⟩)⟩, ⟨by (try simp only [hl214000_66]); (try simp only [hl214001_66]); (with_reducible repeat (first | apply Kd.R_alloc | apply Kd.R_drewN | apply Kd.R_drew)); exact Kd.R_mono HO249.out (fun _ hk => ⟨hk.1.1.1.2, ⟨hk.1.1.2, hk.1.2⟩⟩)⟩, ⟨by (try simp only [hl214000_66]); (try simp only [hl214001_66]); (with_reducible repeat (first | refine blk_drewN ?_ _ | refine blk_drew ?_ | refine blk_alloc ?_ _)); exact BK191.out⟩, ⟨by (try simp only [hl214000_66]); (try simp only [hl214001_66]); (with_reducible repeat (first | refine blk_drewN ?_ _ | refine blk_drew ?_ | refine blk_alloc ?_ _)); exact BK206.out⟩, ⟨by (try simp only [hl214000_66]); (try simp only [hl214001_66]); (with_reducible repeat (first | refine blk_drewN ?_ _ | refine blk_drew ?_ | refine blk_alloc ?_ _)); exact BK213.out⟩, ⟨by (try simp only [hl214000_66]); (try simp only [hl214001_66]); (with_reducible repeat (first | refine blk_drewN ?_ _ | refine blk_drew ?_ | refine blk_alloc ?_ _)); exact BK221.out⟩, ⟨by (try simp only [hl214000_66]); (try simp only [hl214001_66]); (with_reducible repeat (first | refine blk_drewN ?_ _ | refine blk_drew ?_ | refine blk_alloc ?_ _)); exact BK251.out⟩, ⟨xs HB.out⟩⟩
             ·replace c128 := Bool.eq_false_iff.mpr c128
              subst c128
              have H1 : (laws_FnExactRunShips.j2 kj66 t234 true t235 t236) = some true := by first | (rw [if_neg (show ¬ (false = true) by decide)] at H; exact H) | rfl
              clear H
              have H := H1
              clear H1
              have H' := Aside0.mk H
              clear H
              have hnb139 := NB251_191.out
              have hnc139 := NB191_251.out
              have hnb140 := NB251_206.out
              have hnc140 := NB206_251.out
              have hnb141 := NB251_213.out
              have hnc141 := NB213_251.out
              have hnb142 := NB251_221.out
              have hnc142 := NB221_251.out
              have hcz143_0 : w119.cell? ⟨gb251, 0, none⟩ = some (.slice none 0 0) := (blk_cell BK251.out 0).trans rfl
              have hcz143_1 : w119.cell? ⟨gb251, 1, none⟩ = some (.slice none 0 0) := (blk_cell BK251.out 1).trans rfl
              have hfz143_0 := blk_frozen BK251.out 0
              have hfz143_1 := blk_frozen BK251.out 1
              have hnb144 := NB206_191.out
              have hnc144 := NB191_206.out
              have hnb145 := NB206_213.out
              have hnc145 := NB213_206.out
              have hnb146 := NB206_221.out
              have hnc146 := NB221_206.out
              have hcz147_0 : w119.cell? ⟨gb206, 0, none⟩ = some (.slice Ao24 t199.length co24) := (blk_cell BK206.out 0).trans rfl
              have hcz147_1 : w119.cell? ⟨gb206, 1, none⟩ = some (.slice Ao27 t202.length co27) := (blk_cell BK206.out 1).trans rfl
              have hfz147_0 := blk_frozen BK206.out 0
              have hfz147_1 := blk_frozen BK206.out 1
              go_wp2_with (first | ((with_reducible refine gate_callee (f := 14) rfl ?_); refine goesL_ (some 89) rfl rfl Tryd.func14 (by kernel_rfl) rfl #[.agg #[.slice Ao120 t244.length co120, .slice Ao126 t247.length co126], .agg #[.slice Ao24 t199.length co24, .slice Ao27 t202.length co27]] rfl (by (try simp only [List.map_toArray, List.map_cons, List.map_nil]); first | done | rfl | (simp only [List.length_drop, List.length_take]; rfl)) ?_; (with_reducible refine (laws_eqFlight.calls kj66 _ _ t244 _ _ t247 _ _ t199 _ _ t202 false _ ?side1 ?side2 ?side3 ?side4 ?side5 ?side6 ?side7 ?side8 A127.out).mono ?_); (case side1 => refine (Kd.R_reads' (e := 3) (base := w.heap.size) (ok := fun k_ => ((((True ∧ nS k_ Ao24 t199.length co24) ∧ nS k_ Ao31 t231.length co31) ∧ nS k_ Ao38 t214.length co38) ∧ nS k_ Ao116 t238.length co116)) (n := t244.length) (c := co120) ?_).2.2; exact (by (with_reducible repeat (first | apply Kd.R_alloc | apply Kd.R_drewN | apply Kd.R_drew)); exact (Kd.R_mono (Kd.R_far (p := ⟨gb251, 1, none⟩) (Kd.R_far (p := ⟨gb251, 0, none⟩) (Kd.R_types HO246.out BK251.out (by decide)) (fun _ hk => hk.2) (.slice Ao120 t244.length co120)) (fun _ hk => hk.2) (.slice Ao126 t247.length co126)) (fun _ h_ => h_.1)))); (case side2 => exact (Kd.R_reads' HO246.out).2.1); (case side3 => refine (Kd.R_reads' (e := 4) (base := w.heap.size) (ok := fun k_ => ((((True ∧ nS k_ Ao27 t202.length co27) ∧ nS k_ Ao35 t232.length co35) ∧ nS k_ Ao43 t217.length co43) ∧ nS k_ Ao117 t241.length co117)) (n := t247.length) (c := co126) ?_).2.2; exact (by (with_reducible repeat (first | apply Kd.R_alloc | apply Kd.R_drewN | apply Kd.R_drew)); exact (Kd.R_mono (Kd.R_far (p := ⟨gb251, 1, none⟩) (Kd.R_far (p := ⟨gb251, 0, none⟩) (Kd.R_types HO249.out BK251.out (by decide)) (fun _ hk => hk.2) (.slice Ao120 t244.length co120)) (fun _ hk => hk.2) (.slice Ao126 t247.length co126)) (fun _ h_ => h_.1)))); (case side4 => exact (Kd.R_reads' HO249.out).2.1); (case side5 => refine (Kd.R_reads' (e := 3) (base := w.heap.size) (ok := fun k_ => (((nS k_ Ao31 t231.length co31 ∧ nS k_ Ao38 t214.length co38) ∧ nS k_ Ao116 t238.length co116) ∧ nS k_ Ao120 t244.length co120)) (n := t199.length) (c := co24) ?_).2.2; exact (by (with_reducible repeat (first | apply Kd.R_alloc | apply Kd.R_drewN | apply Kd.R_drew)); exact (Kd.R_mono (Kd.R_far (p := ⟨gb251, 1, none⟩) (Kd.R_far (p := ⟨gb251, 0, none⟩) (Kd.R_types HO_207000.out BK251.out (by decide)) (fun _ hk => hk.2) (.slice Ao120 t244.length co120)) (fun _ hk => hk.2) (.slice Ao126 t247.length co126)) (fun _ h_ => h_.1)))); (case side6 => exact (Kd.R_reads' HO_207000.out).2.1); (case side7 => refine (Kd.R_reads' (e := 4) (base := w.heap.size) (ok := fun k_ => (((nS k_ Ao35 t232.length co35 ∧ nS k_ Ao43 t217.length co43) ∧ nS k_ Ao117 t241.length co117) ∧ nS k_ Ao126 t247.length co126)) (n := t202.length) (c := co27) ?_).2.2; exact (by (with_reducible repeat (first | apply Kd.R_alloc | apply Kd.R_drewN | apply Kd.R_drew)); exact (Kd.R_mono (Kd.R_far (p := ⟨gb251, 1, none⟩) (Kd.R_far (p := ⟨gb251, 0, none⟩) (Kd.R_types HO_207001.out BK251.out (by decide)) (fun _ hk => hk.2) (.slice Ao120 t244.length co120)) (fun _ hk => hk.2) (.slice Ao126 t247.length co126)) (fun _ h_ => h_.1)))); (case side8 => exact (Kd.R_reads' HO_207001.out).2.1); rintro e w148 ⟨rfl, hb⟩; refine ⟨_, rfl, ?_⟩; replace HO_207000 := Aside0.mk (Kd.R_below (by (with_reducible repeat (first | apply Kd.R_alloc | apply Kd.R_drewN | apply Kd.R_drew)); exact (Kd.R_mono (Kd.R_far (p := ⟨gb251, 1, none⟩) (Kd.R_far (p := ⟨gb251, 0, none⟩) (Kd.R_types HO_207000.out BK251.out (by decide)) (fun _ hk => hk.2) (.slice Ao120 t244.length co120)) (fun _ hk => hk.2) (.slice Ao126 t247.length co126)) (fun _ h_ => h_.1))) hb); replace HO_207001 := Aside0.mk (Kd.R_below (by (with_reducible repeat (first | apply Kd.R_alloc | apply Kd.R_drewN | apply Kd.R_drew)); exact (Kd.R_mono (Kd.R_far (p := ⟨gb251, 1, none⟩) (Kd.R_far (p := ⟨gb251, 0, none⟩) (Kd.R_types HO_207001.out BK251.out (by decide)) (fun _ hk => hk.2) (.slice Ao120 t244.length co120)) (fun _ hk => hk.2) (.slice Ao126 t247.length co126)) (fun _ h_ => h_.1))) hb); replace HO_214000 := Aside0.mk (Kd.R_below (by (with_reducible repeat (first | apply Kd.R_alloc | apply Kd.R_drewN | apply Kd.R_drew)); exact (Kd.R_mono (Kd.R_far (p := ⟨gb251, 1, none⟩) (Kd.R_far (p := ⟨gb251, 0, none⟩) (Kd.R_types HO_214000.out BK251.out (by decide)) (fun _ hk => hk.2) (.slice Ao120 t244.length co120)) (fun _ hk => hk.2) (.slice Ao126 t247.length co126)) (fun _ h_ => h_.1))) hb); replace HO_214001 := Aside0.mk (Kd.R_below (by (with_reducible repeat (first | apply Kd.R_alloc | apply Kd.R_drewN | apply Kd.R_drew)); exact (Kd.R_mono (Kd.R_far (p := ⟨gb251, 1, none⟩) (Kd.R_far (p := ⟨gb251, 0, none⟩) (Kd.R_types HO_214001.out BK251.out (by decide)) (fun _ hk => hk.2) (.slice Ao120 t244.length co120)) (fun _ hk => hk.2) (.slice Ao126 t247.length co126)) (fun _ h_ => h_.1))) hb); replace HO_222000 := Aside0.mk (Kd.R_below (by (with_reducible repeat (first | apply Kd.R_alloc | apply Kd.R_drewN | apply Kd.R_drew)); exact (Kd.R_mono (Kd.R_far (p := ⟨gb251, 1, none⟩) (Kd.R_far (p := ⟨gb251, 0, none⟩) (Kd.R_types HO_222000.out BK251.out (by decide)) (fun _ hk => hk.2) (.slice Ao120 t244.length co120)) (fun _ hk => hk.2) (.slice Ao126 t247.length co126)) (fun _ h_ => h_.1))) hb); replace HO_222001 := Aside0.mk (Kd.R_below (by (with_reducible repeat (first | apply Kd.R_alloc | apply Kd.R_drewN | apply Kd.R_drew)); exact (Kd.R_mono (Kd.R_far (p := ⟨gb251, 1, none⟩) (Kd.R_far (p := ⟨gb251, 0, none⟩) (Kd.R_types HO_222001.out BK251.out (by decide)) (fun _ hk => hk.2) (.slice Ao120 t244.length co120)) (fun _ hk => hk.2) (.slice Ao126 t247.length co126)) (fun _ h_ => h_.1))) hb); replace HO240 := Aside0.mk (Kd.R_below (by (with_reducible repeat (first | apply Kd.R_alloc | apply Kd.R_drewN | apply Kd.R_drew)); exact (Kd.R_mono (Kd.R_far (p := ⟨gb251, 1, none⟩) (Kd.R_far (p := ⟨gb251, 0, none⟩) (Kd.R_types HO240.out BK251.out (by decide)) (fun _ hk => hk.2) (.slice Ao120 t244.length co120)) (fun _ hk => hk.2) (.slice Ao126 t247.length co126)) (fun _ h_ => h_.1))) hb); replace HO243 := Aside0.mk (Kd.R_below (by (with_reducible repeat (first | apply Kd.R_alloc | apply Kd.R_drewN | apply Kd.R_drew)); exact (Kd.R_mono (Kd.R_far (p := ⟨gb251, 1, none⟩) (Kd.R_far (p := ⟨gb251, 0, none⟩) (Kd.R_types HO243.out BK251.out (by decide)) (fun _ hk => hk.2) (.slice Ao120 t244.length co120)) (fun _ hk => hk.2) (.slice Ao126 t247.length co126)) (fun _ h_ => h_.1))) hb); replace HO246 := Aside0.mk (Kd.R_below (by (with_reducible repeat (first | apply Kd.R_alloc | apply Kd.R_drewN | apply Kd.R_drew)); exact (Kd.R_mono (Kd.R_far (p := ⟨gb251, 1, none⟩) (Kd.R_far (p := ⟨gb251, 0, none⟩) (Kd.R_types HO246.out BK251.out (by decide)) (fun _ hk => hk.2) (.slice Ao120 t244.length co120)) (fun _ hk => hk.2) (.slice Ao126 t247.length co126)) (fun _ h_ => h_.1))) hb); replace HO249 := Aside0.mk (Kd.R_below (by (with_reducible repeat (first | apply Kd.R_alloc | apply Kd.R_drewN | apply Kd.R_drew)); exact (Kd.R_mono (Kd.R_far (p := ⟨gb251, 1, none⟩) (Kd.R_far (p := ⟨gb251, 0, none⟩) (Kd.R_types HO249.out BK251.out (by decide)) (fun _ hk => hk.2) (.slice Ao120 t244.length co120)) (fun _ hk => hk.2) (.slice Ao126 t247.length co126)) (fun _ h_ => h_.1))) hb); replace BK191 := Aside0.mk (blk_below (g := gb191) (o := .cells #[.slice A0_0 l0_0.length c0_0, .slice A0_1 l0_1.length c0_1] 26 (0, 0)) (xff NB191_251.out NB191_251.out BK191.out) hb); replace BK206 := Aside0.mk (blk_below (g := gb206) (o := .cells #[.slice Ao24 t199.length co24, .slice Ao27 t202.length co27] 30 (0, 0)) (xff NB206_251.out NB206_251.out BK206.out) hb); replace BK213 := Aside0.mk (blk_below (g := gb213) (o := .cells #[.slice Ao31 t231.length co31, .slice Ao35 t232.length co35] 30 (0, 0)) (xff NB213_251.out NB213_251.out BK213.out) hb); replace BK221 := Aside0.mk (blk_below (g := gb221) (o := .cells #[.slice Ao38 t214.length co38, .slice Ao43 t217.length co43] 30 (0, 0)) (xff NB221_251.out NB221_251.out BK221.out) hb); replace BK251 := Aside0.mk (blk_below (g := gb251) (o := .cells #[.slice Ao120 t244.length co120, .slice Ao126 t247.length co126] 30 (0, 0)) (by (with_reducible repeat (first | refine blk_drewN ?_ _ | refine blk_drew ?_ | refine blk_alloc ?_ _)); refine blk_put (cs := #[.slice Ao120 t244.length co120, .slice none 0 0]) ?_ 1 _ rfl; (with_reducible repeat (first | refine blk_drewN ?_ _ | refine blk_drew ?_ | refine blk_alloc ?_ _)); refine blk_put (cs := #[.slice none 0 0, .slice none 0 0]) ?_ 0 _ rfl; (with_reducible repeat (first | refine blk_drewN ?_ _ | refine blk_drew ?_ | refine blk_alloc ?_ _)); exact BK251.out) hb); replace HB := xp HB hb; (try clear hb); (try clear hb2); (try clear hk); (try clear hi)))
              go_meet
              case rel => exact ⟨_, (true), (by first | rfl | (simp; done) | (simp [*]; done)), H', ⟨by have := HJ13.out; have := HJ66.out; first | omega | exact Nat.le_refl _⟩, ⟨by (try simp only [hl214000_66]); (try simp only [hl214001_66]); (with_reducible repeat (first | apply Kd.R_alloc | apply Kd.R_drewN | apply Kd.R_drew)); exact Kd.R_mono HO_207000.out (fun _ hk => ⟨hk.1.1.1, ⟨hk.1.1.2, hk.2⟩⟩)⟩, ⟨by (try simp only [hl214000_66]); (try simp only [hl214001_66]); (with_reducible repeat (first | apply Kd.R_alloc | apply Kd.R_drewN | apply Kd.R_drew)); exact Kd.R_mono HO_207001.out (fun _ hk => ⟨hk.1.1.1, ⟨hk.1.1.2, hk.2⟩⟩)⟩, ⟨by (try simp only [hl214000_66]); (try simp only [hl214001_66]); (with_reducible repeat (first | apply Kd.R_alloc | apply Kd.R_drewN | apply Kd.R_drew)); exact Kd.R_mono HO_214000.out (fun _ hk => ⟨hk.1.1.1, ⟨hk.1.1.2, hk.2⟩⟩)⟩, ⟨by (try simp only [hl214000_66]); (try simp only [hl214001_66]); (with_reducible repeat (first | apply Kd.R_alloc | apply Kd.R_drewN | apply Kd.R_drew)); exact Kd.R_mono HO_214001.out (fun _ hk => ⟨hk.1.1.1, ⟨hk.1.1.2, hk.2⟩⟩)⟩, ⟨by (try simp only [hl214000_66]); (try simp only [hl214001_66]); (with_reducible repeat (first | apply Kd.R_alloc | apply Kd.R_drewN | apply Kd.R_drew)); exact Kd.R_mono HO_222000.out (fun _ hk => ⟨hk.1.1.1, ⟨hk.1.1.2, hk.2⟩⟩)⟩, ⟨by (try simp only [hl214000_66]); (try simp only [hl214001_66]); (with_reducible repeat (first | apply Kd.R_alloc | apply Kd.R_drewN | apply Kd.R_drew)); exact Kd.R_mono HO_222001.out (fun _ hk => ⟨hk.1.1.1, ⟨hk.1.1.2, hk.2⟩⟩)⟩, ⟨by (try simp only [hl214000_66]); (try simp only [hl214001_66]); (with_reducible repeat (first | apply Kd.R_alloc | apply Kd.R_drewN | apply Kd.R_drew)); exact Kd.R_mono HO246.out (fun _ hk => ⟨hk.1.1.1.2, ⟨hk.1.1.2, hk.1.2⟩⟩)⟩, ⟨by (try simp only [hl214000_66]); (try simp only [hl214001_66]); (with_reducible repeat (first | apply Kd.R_alloc | apply Kd.R_drewN | apply Kd.R_drew)); exact Kd.R_mono HO249.out (fun _ hk => ⟨hk.1.1.1.2, ⟨hk.1.1.2, hk.1.2⟩⟩)⟩, ⟨by (try simp only [hl214000_66]); (try simp only [hl214001_66]); (with_reducible repeat (first | refine blk_drewN ?_ _ | refine blk_drew ?_ | refine blk_alloc ?_ _)); exact BK191.out⟩, ⟨by (try simp only [hl214000_66]); (try simp only [hl214001_66]); (with_reducible repeat (first | refine blk_drewN ?_ _ | refine blk_drew ?_ | refine blk_alloc ?_ _)); exact BK206.out⟩, ⟨by (try simp only [hl214000_66]); (try simp only [hl214001_66]); (with_reducible repeat (first | refine blk_drewN ?_ _ | refine blk_drew ?_ | refine blk_alloc ?_ _)); exact BK213.out⟩, ⟨by (try simp only [hl214000_66]); (try simp only [hl214001_66]); (with_reducible repeat (first | refine blk_drewN ?_ _ | refine blk_drew ?_ | refine blk_alloc ?_ _)); exact BK221.out⟩, ⟨by (try simp only [hl214000_66]); (try simp only [hl214001_66]); (with_reducible repeat (first | refine blk_drewN ?_ _ | refine blk_drew ?_ | refine blk_alloc ?_ _)); exact BK251.out⟩, ⟨xs HB.out⟩⟩
            case rest =>
             clear HC104
             try clear c1
             try clear c2
             try clear p2
             try clear c3
             try clear c3b0
             try clear c3b1
             try clear c4
             try clear c5
             try clear c6
             try clear c6b0
             try clear c7
             try clear c8
             try clear c9
             try clear c10
             try clear c11
             try clear c12
             try clear c13
             try clear c14
             try clear c18
             try clear c23
             try clear c24
             try clear c25
             try clear c32
             try clear c33
             try clear c39
             try clear c40
             try clear c41
             try clear c45
             try clear c46
             try clear c47
             try clear c48
             try clear c50
             try clear c51
             try clear c54
             try clear c55
             try clear c56
             try clear c58
             try clear c59
             try clear c62
             try clear c65
             try clear c73
             try clear c74
             try clear c75
             try clear c78
             try clear c78b0
             try clear c80
             try clear c81
             try clear c82
             try clear c83
             try clear c85
             try clear c86
             try clear c89
             try clear c90
             try clear c91
             try clear c93
             try clear c94
             try clear c97
             try clear c100
             try clear c100b0
             try clear c101
             try clear c101b0
             try clear c101b1
             try clear c105
             try clear c106
             try clear c107
             try clear c112
             try clear c113
             try clear c121
             try clear c122
             try clear c123
             try clear c124
             try clear c128
             try clear c129
             try clear c130
             try clear c131
             try clear c132
             try clear c134
             try clear c135
             try clear c136
             try clear c139
             try clear c140
             try clear c141
             try clear c142
             try clear c144
             try clear c145
             try clear c146
             try clear hcz108_0
             try clear hcz108_1
             try clear hcz110_0
             try clear hcz110_1
             try clear hcz114_0
             try clear hcz114_1
             try clear hcz125_0
             try clear hcz125_1
             try clear hcz133_0
             try clear hcz133_1
             try clear hcz137_0
             try clear hcz137_1
             try clear hcz143_0
             try clear hcz143_1
             try clear hcz147_0
             try clear hcz147_1
             try clear hcz16_0
             try clear hcz16_1
             try clear hcz18_0
             try clear hcz18_1
             try clear hcz26_0
             try clear hcz26_1
             try clear hcz28_0
             try clear hcz28_1
             try clear hcz34_0
             try clear hcz34_1
             try clear hcz42_0
             try clear hcz42_1
             try clear hcz49_0
             try clear hcz49_1
             try clear hcz52_0
             try clear hcz52_1
             try clear hcz57_0
             try clear hcz57_1
             try clear hcz60_0
             try clear hcz60_1
             try clear hcz76_0
             try clear hcz76_1
             try clear hcz84_0
             try clear hcz84_1
             try clear hcz87_0
             try clear hcz87_1
             try clear hcz8_0
             try clear hcz8_1
             try clear hcz92_0
             try clear hcz92_1
             try clear hcz95_0
             try clear hcz95_1
             try clear hfz108_0
             try clear hfz108_1
             try clear hfz110_0
             try clear hfz110_1
             try clear hfz114_0
             try clear hfz114_1
             try clear hfz125_0
             try clear hfz125_1
             try clear hfz133_0
             try clear hfz133_1
             try clear hfz137_0
             try clear hfz137_1
             try clear hfz143_0
             try clear hfz143_1
             try clear hfz147_0
             try clear hfz147_1
             try clear hfz16_0
             try clear hfz16_1
             try clear hfz18_0
             try clear hfz18_1
             try clear hfz26_0
             try clear hfz26_1
             try clear hfz28_0
             try clear hfz28_1
             try clear hfz34_0
             try clear hfz34_1
             try clear hfz42_0
             try clear hfz42_1
             try clear hfz49_0
             try clear hfz49_1
             try clear hfz52_0
             try clear hfz52_1
             try clear hfz57_0
             try clear hfz57_1
             try clear hfz60_0
             try clear hfz60_1
             try clear hfz76_0
             try clear hfz76_1
             try clear hfz84_0
             try clear hfz84_1
             try clear hfz87_0
             try clear hfz87_1
             try clear hfz8_0
             try clear hfz8_1
             try clear hfz92_0
             try clear hfz92_1
             try clear hfz95_0
             try clear hfz95_1
             try clear p2
             obtain ⟨kq, x95_103, rfl, HA, HJ103, HO_207000, HO_207001, HO_214000, HO_214001, HO_222000, HO_222001, HO_252000, HO_252001, BK191, BK206, BK213, BK221, BK251, HB⟩ := hcut
             have hl222000_103 := (Kd.R_reads' HO_222000.out).1
             rw [hl222000_103] at HO_222000
             (try simp only [hl222000_103])
             (try simp only [hl222000_103] at BK191)
             (try simp only [hl222000_103] at BK206)
             (try simp only [hl222000_103] at BK213)
             (try simp only [hl222000_103] at BK221)
             (try simp only [hl222000_103] at BK251)
             (try simp only [hl222000_103] at HO_207000)
             (try simp only [hl222000_103] at HO_207001)
             (try simp only [hl222000_103] at HO_214000)
             (try simp only [hl222000_103] at HO_214001)
             (try simp only [hl222000_103] at HO_222001)
             (try simp only [hl222000_103] at HO_252000)
             (try simp only [hl222000_103] at HO_252001)
             have hl222001_103 := (Kd.R_reads' HO_222001.out).1
             rw [hl222001_103] at HO_222001
             (try simp only [hl222001_103])
             (try simp only [hl222001_103] at BK191)
             (try simp only [hl222001_103] at BK206)
             (try simp only [hl222001_103] at BK213)
             (try simp only [hl222001_103] at BK221)
             (try simp only [hl222001_103] at BK251)
             (try simp only [hl222001_103] at HO_207000)
             (try simp only [hl222001_103] at HO_207001)
             (try simp only [hl222001_103] at HO_214000)
             (try simp only [hl222001_103] at HO_214001)
             (try simp only [hl222001_103] at HO_222000)
             (try simp only [hl222001_103] at HO_252000)
             (try simp only [hl222001_103] at HO_252001)
             cases kq with
             | zero => exact absurd HA.out (by simp [laws_FnExactRunShips.j2])
             | succ kj103 =>
              have H := HA.out
              clear HA
              simp only [laws_FnExactRunShips.j2] at H
              by_cases c149 : x95_103 = true
              ·subst c149
               have H1 : (some false) = some true := by first | (rw [if_pos rfl] at H; exact H) | rfl
               clear H
               have H := H1
               clear H1
               exact absurd H (by simp)
              ·replace c149 := Bool.eq_false_iff.mpr c149
               subst c149
               have H1 : ((laws_heldFlight.f kj103 t235 t236 1).bind fun t253 => (if t253 < 0 then (some false) else (if t253 = t234 then (some true) else (some false)))) = some true := by first | (rw [if_neg (show ¬ (false = true) by decide)] at H; exact H) | rfl
               clear H
               have H := H1
               clear H1
               replace H := Option.bind_eq_some_iff.mp H
               obtain ⟨t253, A1500, H⟩ := H
               replace H : (if t253 < 0 then (some false) else (if t253 = t234 then (some true) else (some false))) = some true := H
               have A150 := Aside0.mk A1500
               clear A1500
               by_cases c151 : t253 < 0
               ·rw [if_pos c151] at H
                have c151b0 : decide (t253 < 0) = true := decide_eq_true c151
                clear c151
                exact absurd H (by simp)
               ·rw [if_neg c151] at H
                have c151b0 : decide (t253 < 0) = false := decide_eq_false c151
                clear c151
                by_cases c152 : t253 = t234
                ·rw [if_pos c152] at H
                 have c152b0 : (t253 == t234) = true := beq_iff_eq.mpr c152
                 have c152b1 : (t253 != t234) = false := bne_eq_false_iff_eq.mpr c152
                 clear c152
                 clear H
                 have hnb153 := NB221_191.out
                 have hnc153 := NB191_221.out
                 have hnb154 := NB221_206.out
                 have hnc154 := NB206_221.out
                 have hnb155 := NB221_213.out
                 have hnc155 := NB213_221.out
                 have hnb156 := NB221_251.out
                 have hnc156 := NB251_221.out
                 have hcz157_0 : wc.cell? ⟨gb221, 0, none⟩ = some (.slice Ao38 t235.length co38) := (blk_cell BK221.out 0).trans rfl
                 have hcz157_1 : wc.cell? ⟨gb221, 1, none⟩ = some (.slice Ao43 t236.length co43) := (blk_cell BK221.out 1).trans rfl
                 have hfz157_0 := blk_frozen BK221.out 0
                 have hfz157_1 := blk_frozen BK221.out 1
                 go_wp2_with (first | ((with_reducible refine gate_callee (f := 25) rfl ?_); refine goesL_ (some 98) rfl rfl Tryd.func25 (by kernel_rfl) rfl #[.agg #[.slice Ao38 t235.length co38, .slice Ao43 t236.length co43], .int .i64 1] rfl (by (try simp only [List.map_toArray, List.map_cons, List.map_nil]); first | done | rfl | (simp only [List.length_drop, List.length_take]; rfl)) ?_; (with_reducible refine (laws_heldFlight.calls kj103 _ _ t235 _ _ t236 1 t253 _ ?side1 ?side2 ?side3 ?side4 A150.out).mono ?_); (case side1 => exact xd ((Kd.R_reads' HO_222000.out).2.2)); (case side2 => exact (Kd.R_reads' HO_222000.out).2.1); (case side3 => exact xd ((Kd.R_reads' HO_222001.out).2.2)); (case side4 => exact (Kd.R_reads' HO_222001.out).2.1); rintro e w158 ⟨rfl, hb⟩; refine ⟨_, rfl, ?_⟩; replace HO_207000 := xq HO_207000 hb; replace HO_207001 := xq HO_207001 hb; replace HO_214000 := xq HO_214000 hb; replace HO_214001 := xq HO_214001 hb; replace HO_222000 := xq HO_222000 hb; replace HO_222001 := xq HO_222001 hb; replace HO_252000 := xq HO_252000 hb; replace HO_252001 := xq HO_252001 hb; replace BK191 := xk BK191 hb; replace BK206 := xk BK206 hb; replace BK213 := xk BK213 hb; replace BK221 := xk BK221 hb; replace BK251 := xk BK251 hb; replace HB := xp HB hb; (try clear hb); (try clear hb2); (try clear hk); (try clear hi)))
                 go_ret
                 exact ⟨by first | rfl | (simp [errW_none, errW_some] <;> rfl) | (simp [*, errW_none, errW_some] <;> rfl), by repeat (first | (with_reducible first | exact HB.out | apply below_alloc | apply pw_below_drewN | apply below_drew1 | refine below_set ?_ GE191.out | refine below_set ?_ GE206.out | refine below_set ?_ GE213.out | refine below_set ?_ GE221.out | refine below_set ?_ GE251.out) | exact HB.out)⟩
                ·rw [if_neg c152] at H
                 have c152b0 : (t253 == t234) = false := beq_eq_false_iff_ne.mpr c152
                 have c152b1 : (t253 != t234) = true := bne_iff_ne.mpr c152
                 exact absurd H (by simp)
           ·rw [if_neg c101] at H
            have c101b0 : (t237 == t234) = false := beq_eq_false_iff_ne.mpr c101
            have c101b1 : (t237 != t234) = true := bne_iff_ne.mpr c101
            exact absurd H (by simp)
      ·replace c65 := Bool.eq_false_iff.mpr c65
       subst c65
       have H1 : (some false) = some true := by first | (rw [if_neg (show ¬ (false = true) by decide)] at H; exact H) | rfl
       clear H
       have H := H1
       clear H1
       exact absurd H (by simp)

end Go.Proofs.YtmedapafllmhjaaDoor.PFnExactRunShips

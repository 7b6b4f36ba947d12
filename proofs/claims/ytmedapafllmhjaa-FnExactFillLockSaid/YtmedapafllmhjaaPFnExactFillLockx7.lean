/- Lean functions of the Go functions that the law FnExactFillLock reaches, and the proofs that the calls come to what they say (made by program). -/
import Derived.Test.YtmedapafllmhjaaAb
import Derived.Test.YtmedapafllmhjaaPFnExactFillLockx0
import Derived.Test.YtmedapafllmhjaaPFnExactFillLockx1
import Derived.Test.YtmedapafllmhjaaPFnExactFillLockx2
import Derived.Test.YtmedapafllmhjaaPFnExactFillLockx3
import Derived.Test.YtmedapafllmhjaaPFnExactFillLockx6
namespace Go.Proofs.Ytmedapafllmhjaa.PFnExactFillLock
open Go.RowKit Go.Proofs.YtmedapafllmhjaaW.PrintWords Go.Proofs.YtmedapafllmhjaaW.PrintLast Go.Proofs.YtmedapafllmhjaaW.PrintMore Go.Proofs.Ytmedapafllmhjaa.Ab
attribute [local go_sem] max2_int min2_int max_two min_two max_three min_three max_four min_four   -- for this text's walks alone
set_option linter.unusedVariables false
set_option linter.unusedSimpArgs false

/-! ### laws_FnExactFillLock: function 7 -/
mutual
def laws_FnExactFillLock.j0 : Nat → Int → Bool → Bool → Bool → List Int → List Bool → List Int → List Bool → List Int → List Bool → List Int → List Bool → Option (Bool)
  | 0, _, _, _, _, _, _, _, _, _, _, _, _ => none
  | k + 1, x1, x7, x10, x44, x210000, x210001, x225000, x225001, x232000, x232001, x240000, x240001 => if x44 = true then (some false) else ((laws_toFlight.f k x210000 x210001).bind fun bt241 => ((laws_eqFlight.f k x232000 x232001 bt241.1 bt241.2).bind fun t247 => (if t247 = true then ((laws_markFlight.f k x232000 x232001 1).bind fun bt248 => (if bt248.1 < 0 then (laws_FnExactFillLock.j1 k x1 x7 true x210000 x210001 x225000 x225001 x240000 x240001) else ((laws_eqFlight.f k x240000 x240001 x225000 x225001).bind fun t251 => (if t251 = true then (laws_FnExactFillLock.j1 k x1 x7 (x10 != x7) x210000 x210001 x225000 x225001 x240000 x240001) else (laws_FnExactFillLock.j1 k x1 x7 true x210000 x210001 x225000 x225001 x240000 x240001))))) else (some false))))
def laws_FnExactFillLock.j1 : Nat → Int → Bool → Bool → List Int → List Bool → List Int → List Bool → List Int → List Bool → Option (Bool)
  | 0, _, _, _, _, _, _, _, _, _ => none
  | k + 1, x1, x7, x65, x210000, x210001, x225000, x225001, x240000, x240001 => if x65 = true then (some false) else ((laws_markFlight.f k x240000 x240001 1).bind fun bt252 => ((laws_heldFlight.f k bt252.2.1 bt252.2.2 1).bind fun t255 => (if t255 < 0 then (some false) else (if t255 = bt252.1 then ((laws_toFlight.f k x210000 x210001).bind fun bt256 => ((impl_FillLock.f bt256.1 bt256.2 x1).bind fun bt262 => ((laws_eqFlight.f k bt262.1 bt262.2.1 x225000 x225001).bind fun t270 => (if t270 = true then (laws_FnExactFillLock.j2 k bt252.1 (bt262.2.2 != x7) bt252.2.1 bt252.2.2) else (laws_FnExactFillLock.j2 k bt252.1 true bt252.2.1 bt252.2.2))))) else (some false)))))
def laws_FnExactFillLock.j2 : Nat → Int → Bool → List Int → List Bool → Option (Bool)
  | 0, _, _, _, _ => none
  | k + 1, x12, x92, x240000, x240001 => if x92 = true then (some false) else ((laws_heldFlight.f k x240000 x240001 1).bind fun t271 => (if t271 < 0 then (some false) else (if t271 = x12 then (some true) else (some false))))
end
def laws_FnExactFillLock.f (k : Nat) (l0_0 : List Int) (l0_1 : List Bool) (a1 : Int) : Option (Bool) := (laws_szFlight.f l0_0 l0_1 1048576).bind fun t210 => (if t210 < 0 then (some true) else ((laws_toFlight.f k l0_0 l0_1).bind fun bt211 => ((spec_FillLock.f k bt211.1 bt211.2 a1).bind fun bt217 => ((laws_toFlight.f k l0_0 l0_1).bind fun bt225 => ((impl_FillLock.f bt225.1 bt225.2 a1).bind fun bt232 => ((laws_eqFlight.f k bt232.1 bt232.2.1 bt217.1 bt217.2.1).bind fun t240 => (if t240 = true then (laws_FnExactFillLock.j0 k a1 bt217.2.2 bt232.2.2 (bt232.2.2 != bt217.2.2) l0_0 l0_1 bt217.1 bt217.2.1 bt225.1 bt225.2 bt232.1 bt232.2.1) else (laws_FnExactFillLock.j0 k a1 bt217.2.2 bt232.2.2 true l0_0 l0_1 bt217.1 bt217.2.1 bt225.1 bt225.2 bt232.1 bt232.2.1))))))))
theorem laws_FnExactFillLock.mono_l : ∀ k, (∀ y0 y1 y2 y3 y4 y5 y6 y7 y8 y9 y10 y11, LeO (laws_FnExactFillLock.j0 k y0 y1 y2 y3 y4 y5 y6 y7 y8 y9 y10 y11) (laws_FnExactFillLock.j0 (k + 1) y0 y1 y2 y3 y4 y5 y6 y7 y8 y9 y10 y11)) ∧ (∀ y0 y1 y2 y3 y4 y5 y6 y7 y8, LeO (laws_FnExactFillLock.j1 k y0 y1 y2 y3 y4 y5 y6 y7 y8) (laws_FnExactFillLock.j1 (k + 1) y0 y1 y2 y3 y4 y5 y6 y7 y8)) ∧ (∀ y0 y1 y2 y3, LeO (laws_FnExactFillLock.j2 k y0 y1 y2 y3) (laws_FnExactFillLock.j2 (k + 1) y0 y1 y2 y3))
 | 0 => ⟨fun _ _ _ _ _ _ _ _ _ _ _ _ r h => by simp [laws_FnExactFillLock.j0] at h, fun _ _ _ _ _ _ _ _ _ r h => by simp [laws_FnExactFillLock.j1] at h, fun _ _ _ _ r h => by simp [laws_FnExactFillLock.j2] at h⟩
 | k + 1 => by
  obtain ⟨ih0, ih1, ih2⟩ := laws_FnExactFillLock.mono_l k
  refine ⟨?_, ?_, ?_⟩
  ·intro y0 y1 y2 y3 y4 y5 y6 y7 y8 y9 y10 y11
   unfold laws_FnExactFillLock.j0
   repeat' first
   | (with_reducible exact ih0 _ _ _ _ _ _ _ _ _ _ _ _)
   | (with_reducible exact ih1 _ _ _ _ _ _ _ _ _)
   | (with_reducible exact ih2 _ _ _ _)
   | (with_reducible exact laws_eqFlight.mono _ _ _ _ _)
   | (with_reducible exact laws_heldFlight.mono _ _ _ _)
   | (with_reducible exact laws_markFlight.mono _ _ _ _)
   | (with_reducible exact laws_toFlight.mono _ _ _)
   | (with_reducible exact spec_FillLock.mono _ _ _ _)
   | (with_reducible exact LeO.refl _)
   | (with_reducible exact LeO.none _)
   | (with_reducible refine LeO.ite ?_ ?_)
   | (with_reducible refine LeO.bind ?_ (fun _ => ?_))
   | exact ih0 _ _ _ _ _ _ _ _ _ _ _ _
   | exact ih1 _ _ _ _ _ _ _ _ _
   | exact ih2 _ _ _ _
   | exact laws_eqFlight.mono _ _ _ _ _
   | exact laws_heldFlight.mono _ _ _ _
   | exact laws_markFlight.mono _ _ _ _
   | exact laws_toFlight.mono _ _ _
   | exact spec_FillLock.mono _ _ _ _
   | exact LeO.none _
   | refine LeO.ite ?_ ?_
   | refine LeO.bind ?_ (fun _ => ?_)
  ·intro y0 y1 y2 y3 y4 y5 y6 y7 y8
   unfold laws_FnExactFillLock.j1
   repeat' first
   | (with_reducible exact ih0 _ _ _ _ _ _ _ _ _ _ _ _)
   | (with_reducible exact ih1 _ _ _ _ _ _ _ _ _)
   | (with_reducible exact ih2 _ _ _ _)
   | (with_reducible exact laws_eqFlight.mono _ _ _ _ _)
   | (with_reducible exact laws_heldFlight.mono _ _ _ _)
   | (with_reducible exact laws_markFlight.mono _ _ _ _)
   | (with_reducible exact laws_toFlight.mono _ _ _)
   | (with_reducible exact spec_FillLock.mono _ _ _ _)
   | (with_reducible exact LeO.refl _)
   | (with_reducible exact LeO.none _)
   | (with_reducible refine LeO.ite ?_ ?_)
   | (with_reducible refine LeO.bind ?_ (fun _ => ?_))
   | exact ih0 _ _ _ _ _ _ _ _ _ _ _ _
   | exact ih1 _ _ _ _ _ _ _ _ _
   | exact ih2 _ _ _ _
   | exact laws_eqFlight.mono _ _ _ _ _
   | exact laws_heldFlight.mono _ _ _ _
   | exact laws_markFlight.mono _ _ _ _
   | exact laws_toFlight.mono _ _ _
   | exact spec_FillLock.mono _ _ _ _
   | exact LeO.none _
   | refine LeO.ite ?_ ?_
   | refine LeO.bind ?_ (fun _ => ?_)
  ·intro y0 y1 y2 y3
   unfold laws_FnExactFillLock.j2
   repeat' first
   | (with_reducible exact ih0 _ _ _ _ _ _ _ _ _ _ _ _)
   | (with_reducible exact ih1 _ _ _ _ _ _ _ _ _)
   | (with_reducible exact ih2 _ _ _ _)
   | (with_reducible exact laws_eqFlight.mono _ _ _ _ _)
   | (with_reducible exact laws_heldFlight.mono _ _ _ _)
   | (with_reducible exact laws_markFlight.mono _ _ _ _)
   | (with_reducible exact laws_toFlight.mono _ _ _)
   | (with_reducible exact spec_FillLock.mono _ _ _ _)
   | (with_reducible exact LeO.refl _)
   | (with_reducible exact LeO.none _)
   | (with_reducible refine LeO.ite ?_ ?_)
   | (with_reducible refine LeO.bind ?_ (fun _ => ?_))
   | exact ih0 _ _ _ _ _ _ _ _ _ _ _ _
   | exact ih1 _ _ _ _ _ _ _ _ _
   | exact ih2 _ _ _ _
   | exact laws_eqFlight.mono _ _ _ _ _
   | exact laws_heldFlight.mono _ _ _ _
   | exact laws_markFlight.mono _ _ _ _
   | exact laws_toFlight.mono _ _ _
   | exact spec_FillLock.mono _ _ _ _
   | exact LeO.none _
   | refine LeO.ite ?_ ?_
   | refine LeO.bind ?_ (fun _ => ?_)
theorem laws_FnExactFillLock.mono : ∀ a0 a1 a2 k, LeO (laws_FnExactFillLock.f k a0 a1 a2) (laws_FnExactFillLock.f (k + 1) a0 a1 a2) := by
 intro a0 a1 a2 k
 obtain ⟨ih0, ih1, ih2⟩ := laws_FnExactFillLock.mono_l k
 unfold laws_FnExactFillLock.f
 repeat' first
   | (with_reducible exact ih0 _ _ _ _ _ _ _ _ _ _ _ _)
   | (with_reducible exact ih1 _ _ _ _ _ _ _ _ _)
   | (with_reducible exact ih2 _ _ _ _)
   | (with_reducible exact laws_eqFlight.mono _ _ _ _ _)
   | (with_reducible exact laws_heldFlight.mono _ _ _ _)
   | (with_reducible exact laws_markFlight.mono _ _ _ _)
   | (with_reducible exact laws_toFlight.mono _ _ _)
   | (with_reducible exact spec_FillLock.mono _ _ _ _)
   | (with_reducible exact LeO.refl _)
   | (with_reducible exact LeO.none _)
   | (with_reducible refine LeO.ite ?_ ?_)
   | (with_reducible refine LeO.bind ?_ (fun _ => ?_))
   | exact ih0 _ _ _ _ _ _ _ _ _ _ _ _
   | exact ih1 _ _ _ _ _ _ _ _ _
   | exact ih2 _ _ _ _
   | exact laws_eqFlight.mono _ _ _ _ _
   | exact laws_heldFlight.mono _ _ _ _
   | exact laws_markFlight.mono _ _ _ _
   | exact laws_toFlight.mono _ _ _
   | exact spec_FillLock.mono _ _ _ _
   | exact LeO.none _
   | refine LeO.ite ?_ ?_
   | refine LeO.bind ?_ (fun _ => ?_)
set_option maxHeartbeats 8000000 in
set_option maxRecDepth 100000 in
theorem laws_FnExactFillLock.calls (k : Nat) (A0_0 : Option Addr) (c0_0 : Nat) (l0_0 : List Int) (A0_1 : Option Addr) (c0_1 : Nat) (l0_1 : List Bool) (a1 : Int) (w : World) (hr0_0 : Kd.C (Kd.int .i64) w A0_0 l0_0.length l0_0) (hc0_0 : l0_0.length ≤ c0_0) (hr0_1 : Kd.C Kd.bool w A0_1 l0_1.length l0_1) (hc0_1 : l0_1.length ≤ c0_1) (h : laws_FnExactFillLock.f k l0_0 l0_1 a1 = some true) :
  Calls Try.prog 7 #[.agg #[.slice A0_0 l0_0.length c0_0, .slice A0_1 l0_1.length c0_1], .int .i64 a1] w fun e w' => e = .returned (.bool true) ∧ Below w.heap.size w w' := by
 have hu25 := Try.underlying25
 have hu29 := Try.underlying29
 have HR0_0 := Aside0.mk hr0_0
 have HC0_0 := Aside0.mk hc0_0
 clear hr0_0 hc0_0
 have HR0_1 := Aside0.mk hr0_1
 have HC0_1 := Aside0.mk hc0_1
 clear hr0_1 hc0_1
 have HB := Aside0.mk (Below.refl w.heap.size w)
 have H : ((laws_szFlight.f l0_0 l0_1 1048576).bind fun t210 => (if t210 < 0 then (some true) else ((laws_toFlight.f k l0_0 l0_1).bind fun bt211 => ((spec_FillLock.f k bt211.1 bt211.2 a1).bind fun bt217 => ((laws_toFlight.f k l0_0 l0_1).bind fun bt225 => ((impl_FillLock.f bt225.1 bt225.2 a1).bind fun bt232 => ((laws_eqFlight.f k bt232.1 bt232.2.1 bt217.1 bt217.2.1).bind fun t240 => (if t240 = true then (laws_FnExactFillLock.j0 k a1 bt217.2.2 bt232.2.2 (bt232.2.2 != bt217.2.2) l0_0 l0_1 bt217.1 bt217.2.1 bt225.1 bt225.2 bt232.1 bt232.2.1) else (laws_FnExactFillLock.j0 k a1 bt217.2.2 bt232.2.2 true l0_0 l0_1 bt217.1 bt217.2.1 bt225.1 bt225.2 bt232.1 bt232.2.1))))))))) = some true := h
 clear h
 replace H := Option.bind_eq_some_iff.mp H
 obtain ⟨t210, A30, H⟩ := H
 replace H : (if t210 < 0 then (some true) else ((laws_toFlight.f k l0_0 l0_1).bind fun bt211 => ((spec_FillLock.f k bt211.1 bt211.2 a1).bind fun bt217 => ((laws_toFlight.f k l0_0 l0_1).bind fun bt225 => ((impl_FillLock.f bt225.1 bt225.2 a1).bind fun bt232 => ((laws_eqFlight.f k bt232.1 bt232.2.1 bt217.1 bt217.2.1).bind fun t240 => (if t240 = true then (laws_FnExactFillLock.j0 k a1 bt217.2.2 bt232.2.2 (bt232.2.2 != bt217.2.2) l0_0 l0_1 bt217.1 bt217.2.1 bt225.1 bt225.2 bt232.1 bt232.2.1) else (laws_FnExactFillLock.j0 k a1 bt217.2.2 bt232.2.2 true l0_0 l0_1 bt217.1 bt217.2.1 bt225.1 bt225.2 bt232.1 bt232.2.1)))))))) = some true := H
 have A3 := Aside0.mk A30
 clear A30
 by_cases c4 : t210 < 0
 ·rw [if_pos c4] at H
  have c4b0 : decide (t210 < 0) = true := decide_eq_true c4
  clear c4
  clear H
  go_enter Try.func7, Try.ntmps7
  go_wp2_with (first | ((with_reducible refine gate_dst (N := 2) rfl ?_); refine box_event ?hg (N := 2) ?hd (cs := #[.slice A0_0 l0_0.length c0_0, .slice A0_1 l0_1.length c0_1]) (t := 25) ?hr ?_; (case hd => rfl); (case hg => rfl); (case hr => first | (go_simp; done) | (go_simp; rfl)); intro gb209 hg w5 hbox hb; have BK209 := Aside0.mk (hbox); have GW209 := xg HB hg; have GE209 := xg HB hg; replace HB := xp HB hb; clear hb hbox hg; have hcz6_0 : w5.cell? ⟨gb209, 0, none⟩ = some (.slice A0_0 l0_0.length c0_0) := (blk_cell BK209.out 0).trans rfl; have hcz6_1 : w5.cell? ⟨gb209, 1, none⟩ = some (.slice A0_1 l0_1.length c0_1) := (blk_cell BK209.out 1).trans rfl; have hfz6_0 := blk_frozen BK209.out 0; have hfz6_1 := blk_frozen BK209.out 1) | ((with_reducible refine gate_callee (f := 10) rfl ?_); refine goesL_ (some 18) rfl rfl Try.func10 (by kernel_rfl) rfl #[.agg #[.slice A0_0 l0_0.length c0_0, .slice A0_1 l0_1.length c0_1], .int .i64 1048576] rfl (by (try simp only [List.map_toArray, List.map_cons, List.map_nil]); first | done | rfl | (simp only [List.length_drop, List.length_take]; rfl)) ?_; (with_reducible refine (laws_szFlight.calls _ _ l0_0 _ _ l0_1 1048576 t210 _ ?side1 ?side2 ?side3 ?side4 A3.out).mono ?_); (case side1 => exact xd ((Kd.C_below HR0_0.out HB.out))); (case side2 => exact HC0_0.out); (case side3 => exact xd ((Kd.C_below HR0_1.out HB.out))); (case side4 => exact HC0_1.out); rintro e w7 ⟨rfl, hb⟩; refine ⟨_, rfl, ?_⟩; replace BK209 := xk BK209 hb; replace HB := xp HB hb; (try clear hb); (try clear hb2); (try clear hk); (try clear hi)))
  go_ret
  exact ⟨by first | rfl | (simp [errW_none, errW_some] <;> rfl) | (simp [*, errW_none, errW_some] <;> rfl), by repeat (first | (with_reducible first | exact HB.out | apply below_alloc | apply pw_below_drewN | apply below_drew1 | refine below_set ?_ GE209.out) | exact HB.out)⟩
 ·rw [if_neg c4] at H
  have c4b0 : decide (t210 < 0) = false := decide_eq_false c4
  clear c4
  replace H := Option.bind_eq_some_iff.mp H
  obtain ⟨⟨t211, t214⟩, A80, H⟩ := H
  replace H : ((spec_FillLock.f k t211 t214 a1).bind fun bt217 => ((laws_toFlight.f k l0_0 l0_1).bind fun bt225 => ((impl_FillLock.f bt225.1 bt225.2 a1).bind fun bt232 => ((laws_eqFlight.f k bt232.1 bt232.2.1 bt217.1 bt217.2.1).bind fun t240 => (if t240 = true then (laws_FnExactFillLock.j0 k a1 bt217.2.2 bt232.2.2 (bt232.2.2 != bt217.2.2) l0_0 l0_1 bt217.1 bt217.2.1 bt225.1 bt225.2 bt232.1 bt232.2.1) else (laws_FnExactFillLock.j0 k a1 bt217.2.2 bt232.2.2 true l0_0 l0_1 bt217.1 bt217.2.1 bt225.1 bt225.2 bt232.1 bt232.2.1)))))) = some true := H
  have A8 := Aside0.mk A80
  clear A80
  replace H := Option.bind_eq_some_iff.mp H
  obtain ⟨⟨t217, t220, t223⟩, A90, H⟩ := H
  replace H : ((laws_toFlight.f k l0_0 l0_1).bind fun bt225 => ((impl_FillLock.f bt225.1 bt225.2 a1).bind fun bt232 => ((laws_eqFlight.f k bt232.1 bt232.2.1 t217 t220).bind fun t240 => (if t240 = true then (laws_FnExactFillLock.j0 k a1 t223 bt232.2.2 (bt232.2.2 != t223) l0_0 l0_1 t217 t220 bt225.1 bt225.2 bt232.1 bt232.2.1) else (laws_FnExactFillLock.j0 k a1 t223 bt232.2.2 true l0_0 l0_1 t217 t220 bt225.1 bt225.2 bt232.1 bt232.2.1))))) = some true := H
  have A9 := Aside0.mk A90
  clear A90
  replace H := Option.bind_eq_some_iff.mp H
  obtain ⟨⟨t225, t228⟩, A100, H⟩ := H
  replace H : ((impl_FillLock.f t225 t228 a1).bind fun bt232 => ((laws_eqFlight.f k bt232.1 bt232.2.1 t217 t220).bind fun t240 => (if t240 = true then (laws_FnExactFillLock.j0 k a1 t223 bt232.2.2 (bt232.2.2 != t223) l0_0 l0_1 t217 t220 t225 t228 bt232.1 bt232.2.1) else (laws_FnExactFillLock.j0 k a1 t223 bt232.2.2 true l0_0 l0_1 t217 t220 t225 t228 bt232.1 bt232.2.1)))) = some true := H
  have A10 := Aside0.mk A100
  clear A100
  replace H := Option.bind_eq_some_iff.mp H
  obtain ⟨⟨t232, t235, t238⟩, A110, H⟩ := H
  replace H : ((laws_eqFlight.f k t232 t235 t217 t220).bind fun t240 => (if t240 = true then (laws_FnExactFillLock.j0 k a1 t223 t238 (t238 != t223) l0_0 l0_1 t217 t220 t225 t228 t232 t235) else (laws_FnExactFillLock.j0 k a1 t223 t238 true l0_0 l0_1 t217 t220 t225 t228 t232 t235))) = some true := H
  have A11 := Aside0.mk A110
  clear A110
  have HC12 := Aside0.mk H
  clear H
  go_enter Try.func7, Try.ntmps7
  go_upto_region 8 with (first | ((with_reducible refine gate_dst (N := 2) rfl ?_); refine box_event ?hg (N := 2) ?hd (cs := #[.slice A0_0 l0_0.length c0_0, .slice A0_1 l0_1.length c0_1]) (t := 25) ?hr ?_; (case hd => rfl); (case hg => rfl); (case hr => first | (go_simp; done) | (go_simp; rfl)); intro gb209 hg w13 hbox hb; have BK209 := Aside0.mk (hbox); have GW209 := xg HB hg; have GE209 := xg HB hg; replace HB := xp HB hb; clear hb hbox hg; have hcz14_0 : w13.cell? ⟨gb209, 0, none⟩ = some (.slice A0_0 l0_0.length c0_0) := (blk_cell BK209.out 0).trans rfl; have hcz14_1 : w13.cell? ⟨gb209, 1, none⟩ = some (.slice A0_1 l0_1.length c0_1) := (blk_cell BK209.out 1).trans rfl; have hfz14_0 := blk_frozen BK209.out 0; have hfz14_1 := blk_frozen BK209.out 1) | ((with_reducible refine gate_callee (f := 10) rfl ?_); refine goesL_ (some 18) rfl rfl Try.func10 (by kernel_rfl) rfl #[.agg #[.slice A0_0 l0_0.length c0_0, .slice A0_1 l0_1.length c0_1], .int .i64 1048576] rfl (by (try simp only [List.map_toArray, List.map_cons, List.map_nil]); first | done | rfl | (simp only [List.length_drop, List.length_take]; rfl)) ?_; (with_reducible refine (laws_szFlight.calls _ _ l0_0 _ _ l0_1 1048576 t210 _ ?side1 ?side2 ?side3 ?side4 A3.out).mono ?_); (case side1 => exact xd ((Kd.C_below HR0_0.out HB.out))); (case side2 => exact HC0_0.out); (case side3 => exact xd ((Kd.C_below HR0_1.out HB.out))); (case side4 => exact HC0_1.out); rintro e w15 ⟨rfl, hb⟩; refine ⟨_, rfl, ?_⟩; replace BK209 := xk BK209 hb; replace HB := xp HB hb; (try clear hb); (try clear hb2); (try clear hk); (try clear hi); have hcz16_0 : w15.cell? ⟨gb209, 0, none⟩ = some (.slice A0_0 l0_0.length c0_0) := (blk_cell BK209.out 0).trans rfl; have hcz16_1 : w15.cell? ⟨gb209, 1, none⟩ = some (.slice A0_1 l0_1.length c0_1) := (blk_cell BK209.out 1).trans rfl; have hfz16_0 := blk_frozen BK209.out 0; have hfz16_1 := blk_frozen BK209.out 1) | ((with_reducible refine gate_callee (f := 12) rfl ?_); refine goesL_ (some 23) rfl rfl Try.func12 (by kernel_rfl) rfl #[.agg #[.slice A0_0 l0_0.length c0_0, .slice A0_1 l0_1.length c0_1]] rfl (by (try simp only [List.map_toArray, List.map_cons, List.map_nil]); first | done | rfl | (simp only [List.length_drop, List.length_take]; rfl)) ?_; (with_reducible refine (laws_toFlight.calls k _ _ l0_0 _ _ l0_1 t211 t214 _ ?side1 ?side2 ?side3 ?side4 A8.out).mono ?_); (case side1 => exact xd ((Kd.C_below HR0_0.out HB.out))); (case side2 => exact HC0_0.out); (case side3 => exact xd ((Kd.C_below HR0_1.out HB.out))); (case side4 => exact HC0_1.out); rintro e w17 ⟨v212, v215, rfl, ho0, ho1, hb⟩; refine ⟨_, rfl, ?_⟩; have HO213 := Aside0.mk (Kd.R_lower ho0 (below_size (xs HB.out))); have HO216 := Aside0.mk (Kd.R_lower ho1 (below_size (xs HB.out))); replace BK209 := xk BK209 hb; replace HB := xp HB hb; (try clear hb); (try clear hb2); (try clear hk); (try clear hi); (try clear ho0); (try clear ho1); obtain ⟨Ao18, co18, eo18⟩ := Kd.R_slice HO213.out; subst eo18; obtain ⟨Ao19, co19, eo19⟩ := Kd.R_slice HO216.out; subst eo19) | ((with_reducible refine gate_callee (f := 23) rfl ?_); refine goesL_ (some 25) rfl rfl Try.func23 (by kernel_rfl) rfl #[.agg #[.slice Ao18 t211.length co18, .slice Ao19 t214.length co19], .int .i64 a1] rfl (by (try simp only [List.map_toArray, List.map_cons, List.map_nil]); first | done | rfl | (simp only [List.length_drop, List.length_take]; rfl)) ?_; (with_reducible refine (spec_FillLock.calls k _ _ t211 _ _ t214 a1 t217 t220 t223 _ ?side1 ?side2 ?side3 ?side4 A9.out).mono ?_); (case side1 => exact xd ((Kd.R_reads' HO213.out).2.2)); (case side2 => exact (Kd.R_reads' HO213.out).2.1); (case side3 => exact xd ((Kd.R_reads' HO216.out).2.2)); (case side4 => exact (Kd.R_reads' HO216.out).2.1); rintro e w20 ⟨v218, v221, rfl, ho0, ho1, hb⟩; refine ⟨_, rfl, ?_⟩; have HO219 := Aside0.mk (Kd.R_lower (Kd.R_new' ho0 (Kd.R_lt (xr HO213.out))) (below_size (xs HB.out))); replace HO213 := Aside0.mk (Kd.R_elder' (xr HO213.out) (Kd.R_base ho0) hb); have HO222 := Aside0.mk (Kd.R_lower (Kd.R_new' ho1 (Kd.R_lt (xr HO216.out))) (below_size (xs HB.out))); replace HO216 := Aside0.mk (Kd.R_elder' (xr HO216.out) (Kd.R_base ho1) hb); replace BK209 := xk BK209 hb; replace HB := xp HB hb; (try clear hb); (try clear hb2); (try clear hk); (try clear hi); (try clear ho0); (try clear ho1)) | ((with_reducible refine gate_dst (N := 6) rfl ?_); refine box_event ?hg (N := 6) ?hd (cs := #[.slice none 0 0, .slice none 0 0]) (t := 29) ?hr ?_; (case hd => rfl); (case hg => rfl); (case hr => first | (go_simp; done) | (go_simp; rfl)); intro gb224 hg w21 hbox hb; replace HO213 := xq HO213 hb; replace HO216 := xq HO216 hb; replace HO219 := xq HO219 hb; replace HO222 := xq HO222 hb; have BK224 := Aside0.mk (hbox); have GW224 := xg HB hg; have GE224 := xg HB hg; replace HB := xp HB hb; have NB209_224 := xl BK209 hg; have NB224_209 := xh BK209 hg; replace BK209 := xk BK209 hb; clear hb hbox hg; obtain ⟨Ao22, co22, eo22⟩ := Kd.R_slice HO219.out; subst eo22; have hnb23 := NB224_209.out; have hnc23 := NB209_224.out; have hcz24_0 : w21.cell? ⟨gb224, 0, none⟩ = some (.slice none 0 0) := (blk_cell BK224.out 0).trans rfl; have hcz24_1 : w21.cell? ⟨gb224, 1, none⟩ = some (.slice none 0 0) := (blk_cell BK224.out 1).trans rfl; have hfz24_0 := blk_frozen BK224.out 0; have hfz24_1 := blk_frozen BK224.out 1; obtain ⟨Ao25, co25, eo25⟩ := Kd.R_slice HO222.out; subst eo25; have hcz26_0 : w21.cell? ⟨gb209, 0, none⟩ = some (.slice A0_0 l0_0.length c0_0) := (blk_cell BK209.out 0).trans rfl; have hcz26_1 : w21.cell? ⟨gb209, 1, none⟩ = some (.slice A0_1 l0_1.length c0_1) := (blk_cell BK209.out 1).trans rfl; have hfz26_0 := blk_frozen BK209.out 0; have hfz26_1 := blk_frozen BK209.out 1) | ((with_reducible refine gate_callee (f := 12) rfl ?_); refine goesL_ (some 29) rfl rfl Try.func12 (by kernel_rfl) rfl #[.agg #[.slice A0_0 l0_0.length c0_0, .slice A0_1 l0_1.length c0_1]] rfl (by (try simp only [List.map_toArray, List.map_cons, List.map_nil]); first | done | rfl | (simp only [List.length_drop, List.length_take]; rfl)) ?_; (with_reducible refine (laws_toFlight.calls k _ _ l0_0 _ _ l0_1 t225 t228 _ ?side1 ?side2 ?side3 ?side4 A10.out).mono ?_); (case side1 => exact Kd.C_below HR0_0.out (xs HB.out)); (case side2 => exact HC0_0.out); (case side3 => exact Kd.C_below HR0_1.out (xs HB.out)); (case side4 => exact HC0_1.out); rintro e w27 ⟨v226, v229, rfl, ho0, ho1, hb⟩; refine ⟨_, rfl, ?_⟩; have HO227 := Aside0.mk (Kd.R_lower (Kd.R_new' (Kd.R_new' ho0 (Kd.R_lt (by (with_reducible repeat (first | apply Kd.R_alloc | apply Kd.R_drewN | apply Kd.R_drew)); exact (Kd.R_mono (Kd.R_far (p := ⟨gb224, 1, none⟩) (Kd.R_far (p := ⟨gb224, 0, none⟩) (Kd.R_types HO213.out BK224.out (by decide)) (fun _ hk => hk.2) (.slice Ao22 t217.length co22)) (fun _ hk => hk.2) (.slice Ao25 t220.length co25)) (fun _ h_ => h_.1))))) (Kd.R_lt (by (with_reducible repeat (first | apply Kd.R_alloc | apply Kd.R_drewN | apply Kd.R_drew)); exact (Kd.R_mono (Kd.R_far (p := ⟨gb224, 1, none⟩) (Kd.R_far (p := ⟨gb224, 0, none⟩) (Kd.R_types HO219.out BK224.out (by decide)) (fun _ hk => hk.2) (.slice Ao22 t217.length co22)) (fun _ hk => hk.2) (.slice Ao25 t220.length co25)) (fun _ h_ => h_.1))))) (below_size (xs HB.out))); replace HO213 := Aside0.mk (Kd.R_elder' (by (with_reducible repeat (first | apply Kd.R_alloc | apply Kd.R_drewN | apply Kd.R_drew)); exact (Kd.R_mono (Kd.R_far (p := ⟨gb224, 1, none⟩) (Kd.R_far (p := ⟨gb224, 0, none⟩) (Kd.R_types HO213.out BK224.out (by decide)) (fun _ hk => hk.2) (.slice Ao22 t217.length co22)) (fun _ hk => hk.2) (.slice Ao25 t220.length co25)) (fun _ h_ => h_.1))) (Kd.R_base ho0) hb); replace HO219 := Aside0.mk (Kd.R_elder' (by (with_reducible repeat (first | apply Kd.R_alloc | apply Kd.R_drewN | apply Kd.R_drew)); exact (Kd.R_mono (Kd.R_far (p := ⟨gb224, 1, none⟩) (Kd.R_far (p := ⟨gb224, 0, none⟩) (Kd.R_types HO219.out BK224.out (by decide)) (fun _ hk => hk.2) (.slice Ao22 t217.length co22)) (fun _ hk => hk.2) (.slice Ao25 t220.length co25)) (fun _ h_ => h_.1))) (Kd.R_base ho0) hb); have HO230 := Aside0.mk (Kd.R_lower (Kd.R_new' (Kd.R_new' ho1 (Kd.R_lt (by (with_reducible repeat (first | apply Kd.R_alloc | apply Kd.R_drewN | apply Kd.R_drew)); exact (Kd.R_mono (Kd.R_far (p := ⟨gb224, 1, none⟩) (Kd.R_far (p := ⟨gb224, 0, none⟩) (Kd.R_types HO216.out BK224.out (by decide)) (fun _ hk => hk.2) (.slice Ao22 t217.length co22)) (fun _ hk => hk.2) (.slice Ao25 t220.length co25)) (fun _ h_ => h_.1))))) (Kd.R_lt (by (with_reducible repeat (first | apply Kd.R_alloc | apply Kd.R_drewN | apply Kd.R_drew)); exact (Kd.R_mono (Kd.R_far (p := ⟨gb224, 1, none⟩) (Kd.R_far (p := ⟨gb224, 0, none⟩) (Kd.R_types HO222.out BK224.out (by decide)) (fun _ hk => hk.2) (.slice Ao22 t217.length co22)) (fun _ hk => hk.2) (.slice Ao25 t220.length co25)) (fun _ h_ => h_.1))))) (below_size (xs HB.out))); replace HO216 := Aside0.mk (Kd.R_elder' (by (with_reducible repeat (first | apply Kd.R_alloc | apply Kd.R_drewN | apply Kd.R_drew)); exact (Kd.R_mono (Kd.R_far (p := ⟨gb224, 1, none⟩) (Kd.R_far (p := ⟨gb224, 0, none⟩) (Kd.R_types HO216.out BK224.out (by decide)) (fun _ hk => hk.2) (.slice Ao22 t217.length co22)) (fun _ hk => hk.2) (.slice Ao25 t220.length co25)) (fun _ h_ => h_.1))) (Kd.R_base ho1) hb); replace HO222 := Aside0.mk (Kd.R_elder' (by (with_reducible repeat (first | apply Kd.R_alloc | apply Kd.R_drewN | apply Kd.R_drew)); exact (Kd.R_mono (Kd.R_far (p := ⟨gb224, 1, none⟩) (Kd.R_far (p := ⟨gb224, 0, none⟩) (Kd.R_types HO222.out BK224.out (by decide)) (fun _ hk => hk.2) (.slice Ao22 t217.length co22)) (fun _ hk => hk.2) (.slice Ao25 t220.length co25)) (fun _ h_ => h_.1))) (Kd.R_base ho1) hb); replace BK209 := Aside0.mk (blk_below (g := gb209) (o := .cells #[.slice A0_0 l0_0.length c0_0, .slice A0_1 l0_1.length c0_1] 25 (0, 0)) (xff NB209_224.out NB209_224.out BK209.out) hb); replace BK224 := Aside0.mk (blk_below (g := gb224) (o := .cells #[.slice Ao22 t217.length co22, .slice Ao25 t220.length co25] 29 (0, 0)) (by (with_reducible repeat (first | refine blk_drewN ?_ _ | refine blk_drew ?_ | refine blk_alloc ?_ _)); refine blk_put (cs := #[.slice Ao22 t217.length co22, .slice none 0 0]) ?_ 1 _ rfl; (with_reducible repeat (first | refine blk_drewN ?_ _ | refine blk_drew ?_ | refine blk_alloc ?_ _)); refine blk_put (cs := #[.slice none 0 0, .slice none 0 0]) ?_ 0 _ rfl; (with_reducible repeat (first | refine blk_drewN ?_ _ | refine blk_drew ?_ | refine blk_alloc ?_ _)); exact BK224.out) hb); replace HB := xp HB hb; (try clear hb); (try clear hb2); (try clear hk); (try clear hi); (try clear ho0); (try clear ho1)) | ((with_reducible refine gate_dst (N := 8) rfl ?_); refine box_event ?hg (N := 8) ?hd (cs := #[.slice none 0 0, .slice none 0 0]) (t := 29) ?hr ?_; (case hd => rfl); (case hg => rfl); (case hr => first | (go_simp; done) | (go_simp; rfl)); intro gb231 hg w28 hbox hb; replace HO213 := xq HO213 hb; replace HO216 := xq HO216 hb; replace HO219 := xq HO219 hb; replace HO222 := xq HO222 hb; replace HO227 := xq HO227 hb; replace HO230 := xq HO230 hb; have BK231 := Aside0.mk (hbox); have GW231 := xg HB hg; have GE231 := xg HB hg; replace HB := xp HB hb; have NB209_231 := xl BK209 hg; have NB231_209 := xh BK209 hg; replace BK209 := xk BK209 hb; have NB224_231 := xl BK224 hg; have NB231_224 := xh BK224 hg; replace BK224 := xk BK224 hb; clear hb hbox hg; obtain ⟨Ao29, co29, eo29⟩ := Kd.R_slice HO227.out; subst eo29; have hnb30 := NB231_209.out; have hnc30 := NB209_231.out; have hnb31 := NB231_224.out; have hnc31 := NB224_231.out; have hcz32_0 : w28.cell? ⟨gb231, 0, none⟩ = some (.slice none 0 0) := (blk_cell BK231.out 0).trans rfl; have hcz32_1 : w28.cell? ⟨gb231, 1, none⟩ = some (.slice none 0 0) := (blk_cell BK231.out 1).trans rfl; have hfz32_0 := blk_frozen BK231.out 0; have hfz32_1 := blk_frozen BK231.out 1; obtain ⟨Ao33, co33, eo33⟩ := Kd.R_slice HO230.out; subst eo33) | ((with_reducible refine gate_callee (f := 24) rfl ?_); refine goesL_ (some 33) rfl rfl Try.func24 (by kernel_rfl) rfl #[.agg #[.slice Ao29 t225.length co29, .slice Ao33 t228.length co33], .int .i64 a1] rfl (by (try simp only [List.map_toArray, List.map_cons, List.map_nil]); first | done | rfl | (simp only [List.length_drop, List.length_take]; rfl)) ?_; (with_reducible refine (impl_FillLock.calls _ _ t225 _ _ t228 a1 t232 t235 t238 _ ?side1 ?side2 ?side3 ?side4 A11.out).mono ?_); (case side1 => refine (Kd.R_reads' (e := 3) (base := w.heap.size) (ok := fun k_ => ((True ∧ nS k_ Ao18 t211.length co18) ∧ nS k_ Ao22 t217.length co22)) (n := t225.length) (c := co29) ?_).2.2; exact (by (with_reducible repeat (first | apply Kd.R_alloc | apply Kd.R_drewN | apply Kd.R_drew)); exact (Kd.R_mono (Kd.R_far (p := ⟨gb231, 1, none⟩) (Kd.R_far (p := ⟨gb231, 0, none⟩) (Kd.R_types HO227.out BK231.out (by decide)) (fun _ hk => hk.2) (.slice Ao29 t225.length co29)) (fun _ hk => hk.2) (.slice Ao33 t228.length co33)) (fun _ h_ => h_.1)))); (case side2 => exact (Kd.R_reads' HO227.out).2.1); (case side3 => refine (Kd.R_reads' (e := 4) (base := w.heap.size) (ok := fun k_ => ((True ∧ nS k_ Ao19 t214.length co19) ∧ nS k_ Ao25 t220.length co25)) (n := t228.length) (c := co33) ?_).2.2; exact (by (with_reducible repeat (first | apply Kd.R_alloc | apply Kd.R_drewN | apply Kd.R_drew)); exact (Kd.R_mono (Kd.R_far (p := ⟨gb231, 1, none⟩) (Kd.R_far (p := ⟨gb231, 0, none⟩) (Kd.R_types HO230.out BK231.out (by decide)) (fun _ hk => hk.2) (.slice Ao29 t225.length co29)) (fun _ hk => hk.2) (.slice Ao33 t228.length co33)) (fun _ h_ => h_.1)))); (case side4 => exact (Kd.R_reads' HO230.out).2.1); rintro e w34 ⟨v233, v236, rfl, ho0, ho1, hb⟩; refine ⟨_, rfl, ?_⟩; have HO234 := Aside0.mk (Kd.R_lower (Kd.R_new' (Kd.R_new' (Kd.R_new' ho0 (Kd.R_lt (by (with_reducible repeat (first | apply Kd.R_alloc | apply Kd.R_drewN | apply Kd.R_drew)); exact (Kd.R_mono (Kd.R_far (p := ⟨gb231, 1, none⟩) (Kd.R_far (p := ⟨gb231, 0, none⟩) (Kd.R_types HO213.out BK231.out (by decide)) (fun _ hk => hk.2) (.slice Ao29 t225.length co29)) (fun _ hk => hk.2) (.slice Ao33 t228.length co33)) (fun _ h_ => h_.1))))) (Kd.R_lt (by (with_reducible repeat (first | apply Kd.R_alloc | apply Kd.R_drewN | apply Kd.R_drew)); exact (Kd.R_mono (Kd.R_far (p := ⟨gb231, 1, none⟩) (Kd.R_far (p := ⟨gb231, 0, none⟩) (Kd.R_types HO219.out BK231.out (by decide)) (fun _ hk => hk.2) (.slice Ao29 t225.length co29)) (fun _ hk => hk.2) (.slice Ao33 t228.length co33)) (fun _ h_ => h_.1))))) (Kd.R_lt (by (with_reducible repeat (first | apply Kd.R_alloc | apply Kd.R_drewN | apply Kd.R_drew)); exact (Kd.R_mono (Kd.R_far (p := ⟨gb231, 1, none⟩) (Kd.R_far (p := ⟨gb231, 0, none⟩) (Kd.R_types HO227.out BK231.out (by decide)) (fun _ hk => hk.2) (.slice Ao29 t225.length co29)) (fun _ hk => hk.2) (.slice Ao33 t228.length co33)) (fun _ h_ => h_.1))))) (below_size (xs HB.out))); replace HO213 := Aside0.mk (Kd.R_elder' (by (with_reducible repeat (first | apply Kd.R_alloc | apply Kd.R_drewN | apply Kd.R_drew)); exact (Kd.R_mono (Kd.R_far (p := ⟨gb231, 1, none⟩) (Kd.R_far (p := ⟨gb231, 0, none⟩) (Kd.R_types HO213.out BK231.out (by decide)) (fun _ hk => hk.2) (.slice Ao29 t225.length co29)) (fun _ hk => hk.2) (.slice Ao33 t228.length co33)) (fun _ h_ => h_.1))) (Kd.R_base ho0) hb); replace HO219 := Aside0.mk (Kd.R_elder' (by (with_reducible repeat (first | apply Kd.R_alloc | apply Kd.R_drewN | apply Kd.R_drew)); exact (Kd.R_mono (Kd.R_far (p := ⟨gb231, 1, none⟩) (Kd.R_far (p := ⟨gb231, 0, none⟩) (Kd.R_types HO219.out BK231.out (by decide)) (fun _ hk => hk.2) (.slice Ao29 t225.length co29)) (fun _ hk => hk.2) (.slice Ao33 t228.length co33)) (fun _ h_ => h_.1))) (Kd.R_base ho0) hb); replace HO227 := Aside0.mk (Kd.R_elder' (by (with_reducible repeat (first | apply Kd.R_alloc | apply Kd.R_drewN | apply Kd.R_drew)); exact (Kd.R_mono (Kd.R_far (p := ⟨gb231, 1, none⟩) (Kd.R_far (p := ⟨gb231, 0, none⟩) (Kd.R_types HO227.out BK231.out (by decide)) (fun _ hk => hk.2) (.slice Ao29 t225.length co29)) (fun _ hk => hk.2) (.slice Ao33 t228.length co33)) (fun _ h_ => h_.1))) (Kd.R_base ho0) hb); have HO237 := Aside0.mk (Kd.R_lower (Kd.R_new' (Kd.R_new' (Kd.R_new' ho1 (Kd.R_lt (by (with_reducible repeat (first | apply Kd.R_alloc | apply Kd.R_drewN | apply Kd.R_drew)); exact (Kd.R_mono (Kd.R_far (p := ⟨gb231, 1, none⟩) (Kd.R_far (p := ⟨gb231, 0, none⟩) (Kd.R_types HO216.out BK231.out (by decide)) (fun _ hk => hk.2) (.slice Ao29 t225.length co29)) (fun _ hk => hk.2) (.slice Ao33 t228.length co33)) (fun _ h_ => h_.1))))) (Kd.R_lt (by (with_reducible repeat (first | apply Kd.R_alloc | apply Kd.R_drewN | apply Kd.R_drew)); exact (Kd.R_mono (Kd.R_far (p := ⟨gb231, 1, none⟩) (Kd.R_far (p := ⟨gb231, 0, none⟩) (Kd.R_types HO222.out BK231.out (by decide)) (fun _ hk => hk.2) (.slice Ao29 t225.length co29)) (fun _ hk => hk.2) (.slice Ao33 t228.length co33)) (fun _ h_ => h_.1))))) (Kd.R_lt (by (with_reducible repeat (first | apply Kd.R_alloc | apply Kd.R_drewN | apply Kd.R_drew)); exact (Kd.R_mono (Kd.R_far (p := ⟨gb231, 1, none⟩) (Kd.R_far (p := ⟨gb231, 0, none⟩) (Kd.R_types HO230.out BK231.out (by decide)) (fun _ hk => hk.2) (.slice Ao29 t225.length co29)) (fun _ hk => hk.2) (.slice Ao33 t228.length co33)) (fun _ h_ => h_.1))))) (below_size (xs HB.out))); replace HO216 := Aside0.mk (Kd.R_elder' (by (with_reducible repeat (first | apply Kd.R_alloc | apply Kd.R_drewN | apply Kd.R_drew)); exact (Kd.R_mono (Kd.R_far (p := ⟨gb231, 1, none⟩) (Kd.R_far (p := ⟨gb231, 0, none⟩) (Kd.R_types HO216.out BK231.out (by decide)) (fun _ hk => hk.2) (.slice Ao29 t225.length co29)) (fun _ hk => hk.2) (.slice Ao33 t228.length co33)) (fun _ h_ => h_.1))) (Kd.R_base ho1) hb); replace HO222 := Aside0.mk (Kd.R_elder' (by (with_reducible repeat (first | apply Kd.R_alloc | apply Kd.R_drewN | apply Kd.R_drew)); exact (Kd.R_mono (Kd.R_far (p := ⟨gb231, 1, none⟩) (Kd.R_far (p := ⟨gb231, 0, none⟩) (Kd.R_types HO222.out BK231.out (by decide)) (fun _ hk => hk.2) (.slice Ao29 t225.length co29)) (fun _ hk => hk.2) (.slice Ao33 t228.length co33)) (fun _ h_ => h_.1))) (Kd.R_base ho1) hb); replace HO230 := Aside0.mk (Kd.R_elder' (by (with_reducible repeat (first | apply Kd.R_alloc | apply Kd.R_drewN | apply Kd.R_drew)); exact (Kd.R_mono (Kd.R_far (p := ⟨gb231, 1, none⟩) (Kd.R_far (p := ⟨gb231, 0, none⟩) (Kd.R_types HO230.out BK231.out (by decide)) (fun _ hk => hk.2) (.slice Ao29 t225.length co29)) (fun _ hk => hk.2) (.slice Ao33 t228.length co33)) (fun _ h_ => h_.1))) (Kd.R_base ho1) hb); replace BK209 := Aside0.mk (blk_below (g := gb209) (o := .cells #[.slice A0_0 l0_0.length c0_0, .slice A0_1 l0_1.length c0_1] 25 (0, 0)) (xff NB209_231.out NB209_231.out BK209.out) hb); replace BK224 := Aside0.mk (blk_below (g := gb224) (o := .cells #[.slice Ao22 t217.length co22, .slice Ao25 t220.length co25] 29 (0, 0)) (xff NB224_231.out NB224_231.out BK224.out) hb); replace BK231 := Aside0.mk (blk_below (g := gb231) (o := .cells #[.slice Ao29 t225.length co29, .slice Ao33 t228.length co33] 29 (0, 0)) (by (with_reducible repeat (first | refine blk_drewN ?_ _ | refine blk_drew ?_ | refine blk_alloc ?_ _)); refine blk_put (cs := #[.slice Ao29 t225.length co29, .slice none 0 0]) ?_ 1 _ rfl; (with_reducible repeat (first | refine blk_drewN ?_ _ | refine blk_drew ?_ | refine blk_alloc ?_ _)); refine blk_put (cs := #[.slice none 0 0, .slice none 0 0]) ?_ 0 _ rfl; (with_reducible repeat (first | refine blk_drewN ?_ _ | refine blk_drew ?_ | refine blk_alloc ?_ _)); exact BK231.out) hb); replace HB := xp HB hb; (try clear hb); (try clear hb2); (try clear hk); (try clear hi); (try clear ho0); (try clear ho1)) | ((with_reducible refine gate_dst (N := 9) rfl ?_); refine box_event ?hg (N := 9) ?hd (cs := #[.slice none 0 0, .slice none 0 0]) (t := 29) ?hr ?_; (case hd => rfl); (case hg => rfl); (case hr => first | (go_simp; done) | (go_simp; rfl)); intro gb239 hg w35 hbox hb; replace HO213 := xq HO213 hb; replace HO216 := xq HO216 hb; replace HO219 := xq HO219 hb; replace HO222 := xq HO222 hb; replace HO227 := xq HO227 hb; replace HO230 := xq HO230 hb; replace HO234 := xq HO234 hb; replace HO237 := xq HO237 hb; have BK239 := Aside0.mk (hbox); have GW239 := xg HB hg; have GE239 := xg HB hg; replace HB := xp HB hb; have NB209_239 := xl BK209 hg; have NB239_209 := xh BK209 hg; replace BK209 := xk BK209 hb; have NB224_239 := xl BK224 hg; have NB239_224 := xh BK224 hg; replace BK224 := xk BK224 hb; have NB231_239 := xl BK231 hg; have NB239_231 := xh BK231 hg; replace BK231 := xk BK231 hb; clear hb hbox hg; obtain ⟨Ao36, co36, eo36⟩ := Kd.R_slice HO234.out; subst eo36; have hnb37 := NB239_209.out; have hnc37 := NB209_239.out; have hnb38 := NB239_224.out; have hnc38 := NB224_239.out; have hnb39 := NB239_231.out; have hnc39 := NB231_239.out; have hcz40_0 : w35.cell? ⟨gb239, 0, none⟩ = some (.slice none 0 0) := (blk_cell BK239.out 0).trans rfl; have hcz40_1 : w35.cell? ⟨gb239, 1, none⟩ = some (.slice none 0 0) := (blk_cell BK239.out 1).trans rfl; have hfz40_0 := blk_frozen BK239.out 0; have hfz40_1 := blk_frozen BK239.out 1; obtain ⟨Ao41, co41, eo41⟩ := Kd.R_slice HO237.out; subst eo41))
  (try simp only [Act.put, List.setIfInBounds_toArray, List.set_cons_zero, List.set_cons_succ])
  go_cut [44] (fun v44 wc => ∃ (kq : Nat) (x44_11 : Bool), v44 = .bool x44_11 ∧ Aside0 (laws_FnExactFillLock.j0 kq a1 t223 t238 x44_11 l0_0 l0_1 t217 t220 t225 t228 t232 t235 = some true) ∧ Aside0 (kq ≤ k) ∧ Aside0 (Kd.R (Kd.int .i64) 3 wc w.heap.size (fun k_ => nS k_ Ao29 t225.length co29 ∧ nS k_ Ao36 t232.length co36) (.slice Ao22 t217.length co22) t217) ∧ Aside0 (Kd.R Kd.bool 4 wc w.heap.size (fun k_ => nS k_ Ao33 t228.length co33 ∧ nS k_ Ao41 t235.length co41) (.slice Ao25 t220.length co25) t220) ∧ Aside0 (Kd.R (Kd.int .i64) 3 wc w.heap.size (fun k_ => nS k_ Ao22 t217.length co22 ∧ nS k_ Ao36 t232.length co36) (.slice Ao29 t225.length co29) t225) ∧ Aside0 (Kd.R Kd.bool 4 wc w.heap.size (fun k_ => nS k_ Ao25 t220.length co25 ∧ nS k_ Ao41 t235.length co41) (.slice Ao33 t228.length co33) t228) ∧ Aside0 (Kd.R (Kd.int .i64) 3 wc w.heap.size (fun k_ => nS k_ Ao22 t217.length co22 ∧ nS k_ Ao29 t225.length co29) (.slice Ao36 t232.length co36) t232) ∧ Aside0 (Kd.R Kd.bool 4 wc w.heap.size (fun k_ => nS k_ Ao25 t220.length co25 ∧ nS k_ Ao33 t228.length co33) (.slice Ao41 t235.length co41) t235) ∧ Aside0 (wc.heap[gb209]? = some (.cells #[(.slice A0_0 l0_0.length c0_0), (.slice A0_1 l0_1.length c0_1)] 25 (0, 0))) ∧ Aside0 (wc.heap[gb224]? = some (.cells #[(.slice Ao22 t217.length co22), (.slice Ao25 t220.length co25)] 29 (0, 0))) ∧ Aside0 (wc.heap[gb231]? = some (.cells #[(.slice Ao29 t225.length co29), (.slice Ao33 t228.length co33)] 29 (0, 0))) ∧ Aside0 (wc.heap[gb239]? = some (.cells #[(.slice Ao36 t232.length co36), (.slice Ao41 t235.length co41)] 29 (0, 0))) ∧ Aside0 (Below w.heap.size w wc))
  case first =>
   have H := HC12.out
   clear HC12
   replace H := Option.bind_eq_some_iff.mp H
   obtain ⟨t240, A420, H⟩ := H
   replace H : (if t240 = true then (laws_FnExactFillLock.j0 k a1 t223 t238 (t238 != t223) l0_0 l0_1 t217 t220 t225 t228 t232 t235) else (laws_FnExactFillLock.j0 k a1 t223 t238 true l0_0 l0_1 t217 t220 t225 t228 t232 t235)) = some true := H
   have A42 := Aside0.mk A420
   clear A420
   by_cases c43 : t240 = true
   ·subst c43
    have H1 : (laws_FnExactFillLock.j0 k a1 t223 t238 (t238 != t223) l0_0 l0_1 t217 t220 t225 t228 t232 t235) = some true := by first | (rw [if_pos rfl] at H; exact H) | rfl
    clear H
    have H := H1
    clear H1
    have H' := Aside0.mk H
    clear H
    have hnb44 := NB239_209.out
    have hnc44 := NB209_239.out
    have hnb45 := NB239_224.out
    have hnc45 := NB224_239.out
    have hnb46 := NB239_231.out
    have hnc46 := NB231_239.out
    have hcz47_0 : w35.cell? ⟨gb239, 0, none⟩ = some (.slice none 0 0) := (blk_cell BK239.out 0).trans rfl
    have hcz47_1 : w35.cell? ⟨gb239, 1, none⟩ = some (.slice none 0 0) := (blk_cell BK239.out 1).trans rfl
    have hfz47_0 := blk_frozen BK239.out 0
    have hfz47_1 := blk_frozen BK239.out 1
    have hnb48 := NB224_209.out
    have hnc48 := NB209_224.out
    have hnb49 := NB224_231.out
    have hnc49 := NB231_224.out
    have hcz50_0 : w35.cell? ⟨gb224, 0, none⟩ = some (.slice Ao22 t217.length co22) := (blk_cell BK224.out 0).trans rfl
    have hcz50_1 : w35.cell? ⟨gb224, 1, none⟩ = some (.slice Ao25 t220.length co25) := (blk_cell BK224.out 1).trans rfl
    have hfz50_0 := blk_frozen BK224.out 0
    have hfz50_1 := blk_frozen BK224.out 1
    go_wp2_with (first | ((with_reducible refine gate_callee (f := 14) rfl ?_); refine goesL_ (some 38) rfl rfl Try.func14 (by kernel_rfl) rfl #[.agg #[.slice Ao36 t232.length co36, .slice Ao41 t235.length co41], .agg #[.slice Ao22 t217.length co22, .slice Ao25 t220.length co25]] rfl (by (try simp only [List.map_toArray, List.map_cons, List.map_nil]); first | done | rfl | (simp only [List.length_drop, List.length_take]; rfl)) ?_; (with_reducible refine (laws_eqFlight.calls k _ _ t232 _ _ t235 _ _ t217 _ _ t220 true _ ?side1 ?side2 ?side3 ?side4 ?side5 ?side6 ?side7 ?side8 A42.out).mono ?_); (case side1 => refine (Kd.R_reads' (e := 3) (base := w.heap.size) (ok := fun k_ => (((True ∧ nS k_ Ao18 t211.length co18) ∧ nS k_ Ao22 t217.length co22) ∧ nS k_ Ao29 t225.length co29)) (n := t232.length) (c := co36) ?_).2.2; exact (by (with_reducible repeat (first | apply Kd.R_alloc | apply Kd.R_drewN | apply Kd.R_drew)); exact (Kd.R_mono (Kd.R_far (p := ⟨gb239, 1, none⟩) (Kd.R_far (p := ⟨gb239, 0, none⟩) (Kd.R_types HO234.out BK239.out (by decide)) (fun _ hk => hk.2) (.slice Ao36 t232.length co36)) (fun _ hk => hk.2) (.slice Ao41 t235.length co41)) (fun _ h_ => h_.1)))); (case side2 => exact (Kd.R_reads' HO234.out).2.1); (case side3 => refine (Kd.R_reads' (e := 4) (base := w.heap.size) (ok := fun k_ => (((True ∧ nS k_ Ao19 t214.length co19) ∧ nS k_ Ao25 t220.length co25) ∧ nS k_ Ao33 t228.length co33)) (n := t235.length) (c := co41) ?_).2.2; exact (by (with_reducible repeat (first | apply Kd.R_alloc | apply Kd.R_drewN | apply Kd.R_drew)); exact (Kd.R_mono (Kd.R_far (p := ⟨gb239, 1, none⟩) (Kd.R_far (p := ⟨gb239, 0, none⟩) (Kd.R_types HO237.out BK239.out (by decide)) (fun _ hk => hk.2) (.slice Ao36 t232.length co36)) (fun _ hk => hk.2) (.slice Ao41 t235.length co41)) (fun _ h_ => h_.1)))); (case side4 => exact (Kd.R_reads' HO237.out).2.1); (case side5 => refine (Kd.R_reads' (e := 3) (base := w.heap.size) (ok := fun k_ => (((True ∧ nS k_ Ao18 t211.length co18) ∧ nS k_ Ao29 t225.length co29) ∧ nS k_ Ao36 t232.length co36)) (n := t217.length) (c := co22) ?_).2.2; exact (by (with_reducible repeat (first | apply Kd.R_alloc | apply Kd.R_drewN | apply Kd.R_drew)); exact (Kd.R_mono (Kd.R_far (p := ⟨gb239, 1, none⟩) (Kd.R_far (p := ⟨gb239, 0, none⟩) (Kd.R_types HO219.out BK239.out (by decide)) (fun _ hk => hk.2) (.slice Ao36 t232.length co36)) (fun _ hk => hk.2) (.slice Ao41 t235.length co41)) (fun _ h_ => h_.1)))); (case side6 => exact (Kd.R_reads' HO219.out).2.1); (case side7 => refine (Kd.R_reads' (e := 4) (base := w.heap.size) (ok := fun k_ => (((True ∧ nS k_ Ao19 t214.length co19) ∧ nS k_ Ao33 t228.length co33) ∧ nS k_ Ao41 t235.length co41)) (n := t220.length) (c := co25) ?_).2.2; exact (by (with_reducible repeat (first | apply Kd.R_alloc | apply Kd.R_drewN | apply Kd.R_drew)); exact (Kd.R_mono (Kd.R_far (p := ⟨gb239, 1, none⟩) (Kd.R_far (p := ⟨gb239, 0, none⟩) (Kd.R_types HO222.out BK239.out (by decide)) (fun _ hk => hk.2) (.slice Ao36 t232.length co36)) (fun _ hk => hk.2) (.slice Ao41 t235.length co41)) (fun _ h_ => h_.1)))); (case side8 => exact (Kd.R_reads' HO222.out).2.1); rintro e w51 ⟨rfl, hb⟩; refine ⟨_, rfl, ?_⟩; replace HO213 := Aside0.mk (Kd.R_below (by (with_reducible repeat (first | apply Kd.R_alloc | apply Kd.R_drewN | apply Kd.R_drew)); exact (Kd.R_mono (Kd.R_far (p := ⟨gb239, 1, none⟩) (Kd.R_far (p := ⟨gb239, 0, none⟩) (Kd.R_types HO213.out BK239.out (by decide)) (fun _ hk => hk.2) (.slice Ao36 t232.length co36)) (fun _ hk => hk.2) (.slice Ao41 t235.length co41)) (fun _ h_ => h_.1))) hb); replace HO216 := Aside0.mk (Kd.R_below (by (with_reducible repeat (first | apply Kd.R_alloc | apply Kd.R_drewN | apply Kd.R_drew)); exact (Kd.R_mono (Kd.R_far (p := ⟨gb239, 1, none⟩) (Kd.R_far (p := ⟨gb239, 0, none⟩) (Kd.R_types HO216.out BK239.out (by decide)) (fun _ hk => hk.2) (.slice Ao36 t232.length co36)) (fun _ hk => hk.2) (.slice Ao41 t235.length co41)) (fun _ h_ => h_.1))) hb); replace HO219 := Aside0.mk (Kd.R_below (by (with_reducible repeat (first | apply Kd.R_alloc | apply Kd.R_drewN | apply Kd.R_drew)); exact (Kd.R_mono (Kd.R_far (p := ⟨gb239, 1, none⟩) (Kd.R_far (p := ⟨gb239, 0, none⟩) (Kd.R_types HO219.out BK239.out (by decide)) (fun _ hk => hk.2) (.slice Ao36 t232.length co36)) (fun _ hk => hk.2) (.slice Ao41 t235.length co41)) (fun _ h_ => h_.1))) hb); replace HO222 := Aside0.mk (Kd.R_below (by (with_reducible repeat (first | apply Kd.R_alloc | apply Kd.R_drewN | apply Kd.R_drew)); exact (Kd.R_mono (Kd.R_far (p := ⟨gb239, 1, none⟩) (Kd.R_far (p := ⟨gb239, 0, none⟩) (Kd.R_types HO222.out BK239.out (by decide)) (fun _ hk => hk.2) (.slice Ao36 t232.length co36)) (fun _ hk => hk.2) (.slice Ao41 t235.length co41)) (fun _ h_ => h_.1))) hb); replace HO227 := Aside0.mk (Kd.R_below (by (with_reducible repeat (first | apply Kd.R_alloc | apply Kd.R_drewN | apply Kd.R_drew)); exact (Kd.R_mono (Kd.R_far (p := ⟨gb239, 1, none⟩) (Kd.R_far (p := ⟨gb239, 0, none⟩) (Kd.R_types HO227.out BK239.out (by decide)) (fun _ hk => hk.2) (.slice Ao36 t232.length co36)) (fun _ hk => hk.2) (.slice Ao41 t235.length co41)) (fun _ h_ => h_.1))) hb); replace HO230 := Aside0.mk (Kd.R_below (by (with_reducible repeat (first | apply Kd.R_alloc | apply Kd.R_drewN | apply Kd.R_drew)); exact (Kd.R_mono (Kd.R_far (p := ⟨gb239, 1, none⟩) (Kd.R_far (p := ⟨gb239, 0, none⟩) (Kd.R_types HO230.out BK239.out (by decide)) (fun _ hk => hk.2) (.slice Ao36 t232.length co36)) (fun _ hk => hk.2) (.slice Ao41 t235.length co41)) (fun _ h_ => h_.1))) hb); replace HO234 := Aside0.mk (Kd.R_below (by (with_reducible repeat (first | apply Kd.R_alloc | apply Kd.R_drewN | apply Kd.R_drew)); exact (Kd.R_mono (Kd.R_far (p := ⟨gb239, 1, none⟩) (Kd.R_far (p := ⟨gb239, 0, none⟩) (Kd.R_types HO234.out BK239.out (by decide)) (fun _ hk => hk.2) (.slice Ao36 t232.length co36)) (fun _ hk => hk.2) (.slice Ao41 t235.length co41)) (fun _ h_ => h_.1))) hb); replace HO237 := Aside0.mk (Kd.R_below (by (with_reducible repeat (first | apply Kd.R_alloc | apply Kd.R_drewN | apply Kd.R_drew)); exact (Kd.R_mono (Kd.R_far (p := ⟨gb239, 1, none⟩) (Kd.R_far (p := ⟨gb239, 0, none⟩) (Kd.R_types HO237.out BK239.out (by decide)) (fun _ hk => hk.2) (.slice Ao36 t232.length co36)) (fun _ hk => hk.2) (.slice Ao41 t235.length co41)) (fun _ h_ => h_.1))) hb); replace BK209 := Aside0.mk (blk_below (g := gb209) (o := .cells #[.slice A0_0 l0_0.length c0_0, .slice A0_1 l0_1.length c0_1] 25 (0, 0)) (xff NB209_239.out NB209_239.out BK209.out) hb); replace BK224 := Aside0.mk (blk_below (g := gb224) (o := .cells #[.slice Ao22 t217.length co22, .slice Ao25 t220.length co25] 29 (0, 0)) (xff NB224_239.out NB224_239.out BK224.out) hb); replace BK231 := Aside0.mk (blk_below (g := gb231) (o := .cells #[.slice Ao29 t225.length co29, .slice Ao33 t228.length co33] 29 (0, 0)) (xff NB231_239.out NB231_239.out BK231.out) hb); replace BK239 := Aside0.mk (blk_below (g := gb239) (o := .cells #[.slice Ao36 t232.length co36, .slice Ao41 t235.length co41] 29 (0, 0)) (by (with_reducible repeat (first | refine blk_drewN ?_ _ | refine blk_drew ?_ | refine blk_alloc ?_ _)); refine blk_put (cs := #[.slice Ao36 t232.length co36, .slice none 0 0]) ?_ 1 _ rfl; (with_reducible repeat (first | refine blk_drewN ?_ _ | refine blk_drew ?_ | refine blk_alloc ?_ _)); refine blk_put (cs := #[.slice none 0 0, .slice none 0 0]) ?_ 0 _ rfl; (with_reducible repeat (first | refine blk_drewN ?_ _ | refine blk_drew ?_ | refine blk_alloc ?_ _)); exact BK239.out) hb); replace HB := xp HB hb; (try clear hb); (try clear hb2); (try clear hk); (try clear hi)))
    go_meet
    case rel => exact ⟨_, ((t238 != t223)), (by first | rfl | (simp; done) | (simp [*]; done)), H', ⟨by first | omega | exact Nat.le_refl _⟩, ⟨xm HO219 (fun _ hk => ⟨hk.1.2, hk.2⟩)⟩, ⟨xm HO222 (fun _ hk => ⟨hk.1.2, hk.2⟩)⟩, ⟨xm HO227 (fun _ hk => ⟨hk.1.2, hk.2⟩)⟩, ⟨xm HO230 (fun _ hk => ⟨hk.1.2, hk.2⟩)⟩, ⟨xm HO234 (fun _ hk => ⟨hk.1.2, hk.2⟩)⟩, ⟨xm HO237 (fun _ hk => ⟨hk.1.2, hk.2⟩)⟩, ⟨xb BK209.out⟩, ⟨xb BK224.out⟩, ⟨xb BK231.out⟩, ⟨xb BK239.out⟩, ⟨xs HB.out⟩⟩
   ·replace c43 := Bool.eq_false_iff.mpr c43
    subst c43
    have H1 : (laws_FnExactFillLock.j0 k a1 t223 t238 true l0_0 l0_1 t217 t220 t225 t228 t232 t235) = some true := by first | (rw [if_neg (show ¬ (false = true) by decide)] at H; exact H) | rfl
    clear H
    have H := H1
    clear H1
    have H' := Aside0.mk H
    clear H
    have hnb52 := NB239_209.out
    have hnc52 := NB209_239.out
    have hnb53 := NB239_224.out
    have hnc53 := NB224_239.out
    have hnb54 := NB239_231.out
    have hnc54 := NB231_239.out
    have hcz55_0 : w35.cell? ⟨gb239, 0, none⟩ = some (.slice none 0 0) := (blk_cell BK239.out 0).trans rfl
    have hcz55_1 : w35.cell? ⟨gb239, 1, none⟩ = some (.slice none 0 0) := (blk_cell BK239.out 1).trans rfl
    have hfz55_0 := blk_frozen BK239.out 0
    have hfz55_1 := blk_frozen BK239.out 1
    have hnb56 := NB224_209.out
    have hnc56 := NB209_224.out
    have hnb57 := NB224_231.out
    have hnc57 := NB231_224.out
    have hcz58_0 : w35.cell? ⟨gb224, 0, none⟩ = some (.slice Ao22 t217.length co22) := (blk_cell BK224.out 0).trans rfl
    have hcz58_1 : w35.cell? ⟨gb224, 1, none⟩ = some (.slice Ao25 t220.length co25) := (blk_cell BK224.out 1).trans rfl
    have hfz58_0 := blk_frozen BK224.out 0
    have hfz58_1 := blk_frozen BK224.out 1
    go_wp2_with (first | ((with_reducible refine gate_callee (f := 14) rfl ?_); refine goesL_ (some 38) rfl rfl Try.func14 (by kernel_rfl) rfl #[.agg #[.slice Ao36 t232.length co36, .slice Ao41 t235.length co41], .agg #[.slice Ao22 t217.length co22, .slice Ao25 t220.length co25]] rfl (by (try simp only [List.map_toArray, List.map_cons, List.map_nil]); first | done | rfl | (simp only [List.length_drop, List.length_take]; rfl)) ?_; (with_reducible refine (laws_eqFlight.calls k _ _ t232 _ _ t235 _ _ t217 _ _ t220 false _ ?side1 ?side2 ?side3 ?side4 ?side5 ?side6 ?side7 ?side8 A42.out).mono ?_); (case side1 => refine (Kd.R_reads' (e := 3) (base := w.heap.size) (ok := fun k_ => (((True ∧ nS k_ Ao18 t211.length co18) ∧ nS k_ Ao22 t217.length co22) ∧ nS k_ Ao29 t225.length co29)) (n := t232.length) (c := co36) ?_).2.2; exact (by (with_reducible repeat (first | apply Kd.R_alloc | apply Kd.R_drewN | apply Kd.R_drew)); exact (Kd.R_mono (Kd.R_far (p := ⟨gb239, 1, none⟩) (Kd.R_far (p := ⟨gb239, 0, none⟩) (Kd.R_types HO234.out BK239.out (by decide)) (fun _ hk => hk.2) (.slice Ao36 t232.length co36)) (fun _ hk => hk.2) (.slice Ao41 t235.length co41)) (fun _ h_ => h_.1)))); (case side2 => exact (Kd.R_reads' HO234.out).2.1); (case side3 => refine (Kd.R_reads' (e := 4) (base := w.heap.size) (ok := fun k_ => (((True ∧ nS k_ Ao19 t214.length co19) ∧ nS k_ Ao25 t220.length co25) ∧ nS k_ Ao33 t228.length co33)) (n := t235.length) (c := co41) ?_).2.2; exact (by (with_reducible repeat (first | apply Kd.R_alloc | apply Kd.R_drewN | apply Kd.R_drew)); exact (Kd.R_mono (Kd.R_far (p := ⟨gb239, 1, none⟩) (Kd.R_far (p := ⟨gb239, 0, none⟩) (Kd.R_types HO237.out BK239.out (by decide)) (fun _ hk => hk.2) (.slice Ao36 t232.length co36)) (fun _ hk => hk.2) (.slice Ao41 t235.length co41)) (fun _ h_ => h_.1)))); (case side4 => exact (Kd.R_reads' HO237.out).2.1); (case side5 => refine (Kd.R_reads' (e := 3) (base := w.heap.size) (ok := fun k_ => (((True ∧ nS k_ Ao18 t211.length co18) ∧ nS k_ Ao29 t225.length co29) ∧ nS k_ Ao36 t232.length co36)) (n := t217.length) (c := co22) ?_).2.2; exact (by (with_reducible repeat (first | apply Kd.R_alloc | apply Kd.R_drewN | apply Kd.R_drew)); exact (Kd.R_mono (Kd.R_far (p := ⟨gb239, 1, none⟩) (Kd.R_far (p := ⟨gb239, 0, none⟩) (Kd.R_types HO219.out BK239.out (by decide)) (fun _ hk => hk.2) (.slice Ao36 t232.length co36)) (fun _ hk => hk.2) (.slice Ao41 t235.length co41)) (fun _ h_ => h_.1)))); (case side6 => exact (Kd.R_reads' HO219.out).2.1); (case side7 => refine (Kd.R_reads' (e := 4) (base := w.heap.size) (ok := fun k_ => (((True ∧ nS k_ Ao19 t214.length co19) ∧ nS k_ Ao33 t228.length co33) ∧ nS k_ Ao41 t235.length co41)) (n := t220.length) (c := co25) ?_).2.2; exact (by (with_reducible repeat (first | apply Kd.R_alloc | apply Kd.R_drewN | apply Kd.R_drew)); exact (Kd.R_mono (Kd.R_far (p := ⟨gb239, 1, none⟩) (Kd.R_far (p := ⟨gb239, 0, none⟩) (Kd.R_types HO222.out BK239.out (by decide)) (fun _ hk => hk.2) (.slice Ao36 t232.length co36)) (fun _ hk => hk.2) (.slice Ao41 t235.length co41)) (fun _ h_ => h_.1)))); (case side8 => exact (Kd.R_reads' HO222.out).2.1); rintro e w59 ⟨rfl, hb⟩; refine ⟨_, rfl, ?_⟩; replace HO213 := Aside0.mk (Kd.R_below (by (with_reducible repeat (first | apply Kd.R_alloc | apply Kd.R_drewN | apply Kd.R_drew)); exact (Kd.R_mono (Kd.R_far (p := ⟨gb239, 1, none⟩) (Kd.R_far (p := ⟨gb239, 0, none⟩) (Kd.R_types HO213.out BK239.out (by decide)) (fun _ hk => hk.2) (.slice Ao36 t232.length co36)) (fun _ hk => hk.2) (.slice Ao41 t235.length co41)) (fun _ h_ => h_.1))) hb); replace HO216 := Aside0.mk (Kd.R_below (by (with_reducible repeat (first | apply Kd.R_alloc | apply Kd.R_drewN | apply Kd.R_drew)); exact (Kd.R_mono (Kd.R_far (p := ⟨gb239, 1, none⟩) (Kd.R_far (p := ⟨gb239, 0, none⟩) (Kd.R_types HO216.out BK239.out (by decide)) (fun _ hk => hk.2) (.slice Ao36 t232.length co36)) (fun _ hk => hk.2) (.slice Ao41 t235.length co41)) (fun _ h_ => h_.1))) hb); replace HO219 := Aside0.mk (Kd.R_below (by (with_reducible repeat (first | apply Kd.R_alloc | apply Kd.R_drewN | apply Kd.R_drew)); exact (Kd.R_mono (Kd.R_far (p := ⟨gb239, 1, none⟩) (Kd.R_far (p := ⟨gb239, 0, none⟩) (Kd.R_types HO219.out BK239.out (by decide)) (fun _ hk => hk.2) (.slice Ao36 t232.length co36)) (fun _ hk => hk.2) (.slice Ao41 t235.length co41)) (fun _ h_ => h_.1))) hb); replace HO222 := Aside0.mk (Kd.R_below (by (with_reducible repeat (first | apply Kd.R_alloc | apply Kd.R_drewN | apply Kd.R_drew)); exact (Kd.R_mono (Kd.R_far (p := ⟨gb239, 1, none⟩) (Kd.R_far (p := ⟨gb239, 0, none⟩) (Kd.R_types HO222.out BK239.out (by decide)) (fun _ hk => hk.2) (.slice Ao36 t232.length co36)) (fun _ hk => hk.2) (.slice Ao41 t235.length co41)) (fun _ h_ => h_.1))) hb); replace HO227 := Aside0.mk (Kd.R_below (by (with_reducible repeat (first | apply Kd.R_alloc | apply Kd.R_drewN | apply Kd.R_drew)); exact (Kd.R_mono (Kd.R_far (p := ⟨gb239, 1, none⟩) (Kd.R_far (p := ⟨gb239, 0, none⟩) (Kd.R_types HO227.out BK239.out (by decide)) (fun _ hk => hk.2) (.slice Ao36 t232.length co36)) (fun _ hk => hk.2) (.slice Ao41 t235.length co41)) (fun _ h_ => h_.1))) hb); replace HO230 := Aside0.mk (Kd.R_below (by (with_reducible repeat (first | apply Kd.R_alloc | apply Kd.R_drewN | apply Kd.R_drew)); exact (Kd.R_mono (Kd.R_far (p := ⟨gb239, 1, none⟩) (Kd.R_far (p := ⟨gb239, 0, none⟩) (Kd.R_types HO230.out BK239.out (by decide)) (fun _ hk => hk.2) (.slice Ao36 t232.length co36)) (fun _ hk => hk.2) (.slice Ao41 t235.length co41)) (fun _ h_ => h_.1))) hb); replace HO234 := Aside0.mk (Kd.R_below (by (with_reducible repeat (first | apply Kd.R_alloc | apply Kd.R_drewN | apply Kd.R_drew)); exact (Kd.R_mono (Kd.R_far (p := ⟨gb239, 1, none⟩) (Kd.R_far (p := ⟨gb239, 0, none⟩) (Kd.R_types HO234.out BK239.out (by decide)) (fun _ hk => hk.2) (.slice Ao36 t232.length co36)) (fun _ hk => hk.2) (.slice Ao41 t235.length co41)) (fun _ h_ => h_.1))) hb); replace HO237 := Aside0.mk (Kd.R_below (by (with_reducible repeat (first | apply Kd.R_alloc | apply Kd.R_drewN | apply Kd.R_drew)); exact (Kd.R_mono (Kd.R_far (p := ⟨gb239, 1, none⟩) (Kd.R_far (p := ⟨gb239, 0, none⟩) (Kd.R_types HO237.out BK239.out (by decide)) (fun _ hk => hk.2) (.slice Ao36 t232.length co36)) (fun _ hk => hk.2) (.slice Ao41 t235.length co41)) (fun _ h_ => h_.1))) hb); replace BK209 := Aside0.mk (blk_below (g := gb209) (o := .cells #[.slice A0_0 l0_0.length c0_0, .slice A0_1 l0_1.length c0_1] 25 (0, 0)) (xff NB209_239.out NB209_239.out BK209.out) hb); replace BK224 := Aside0.mk (blk_below (g := gb224) (o := .cells #[.slice Ao22 t217.length co22, .slice Ao25 t220.length co25] 29 (0, 0)) (xff NB224_239.out NB224_239.out BK224.out) hb); replace BK231 := Aside0.mk (blk_below (g := gb231) (o := .cells #[.slice Ao29 t225.length co29, .slice Ao33 t228.length co33] 29 (0, 0)) (xff NB231_239.out NB231_239.out BK231.out) hb); replace BK239 := Aside0.mk (blk_below (g := gb239) (o := .cells #[.slice Ao36 t232.length co36, .slice Ao41 t235.length co41] 29 (0, 0)) (by (with_reducible repeat (first | refine blk_drewN ?_ _ | refine blk_drew ?_ | refine blk_alloc ?_ _)); refine blk_put (cs := #[.slice Ao36 t232.length co36, .slice none 0 0]) ?_ 1 _ rfl; (with_reducible repeat (first | refine blk_drewN ?_ _ | refine blk_drew ?_ | refine blk_alloc ?_ _)); refine blk_put (cs := #[.slice none 0 0, .slice none 0 0]) ?_ 0 _ rfl; (with_reducible repeat (first | refine blk_drewN ?_ _ | refine blk_drew ?_ | refine blk_alloc ?_ _)); exact BK239.out) hb); replace HB := xp HB hb; (try clear hb); (try clear hb2); (try clear hk); (try clear hi)))
    go_meet
    case rel => exact ⟨_, (true), (by first | rfl | (simp; done) | (simp [*]; done)), H', ⟨by first | omega | exact Nat.le_refl _⟩, ⟨xm HO219 (fun _ hk => ⟨hk.1.2, hk.2⟩)⟩, ⟨xm HO222 (fun _ hk => ⟨hk.1.2, hk.2⟩)⟩, ⟨xm HO227 (fun _ hk => ⟨hk.1.2, hk.2⟩)⟩, ⟨xm HO230 (fun _ hk => ⟨hk.1.2, hk.2⟩)⟩, ⟨xm HO234 (fun _ hk => ⟨hk.1.2, hk.2⟩)⟩, ⟨xm HO237 (fun _ hk => ⟨hk.1.2, hk.2⟩)⟩, ⟨xb BK209.out⟩, ⟨xb BK224.out⟩, ⟨xb BK231.out⟩, ⟨xb BK239.out⟩, ⟨xs HB.out⟩⟩
  case rest =>
   clear HC12
   try clear c1
   try clear c2
   try clear p2
   try clear c3
   try clear c4
   try clear c4b0
   try clear c5
   try clear c7
   try clear c10
   try clear c12
   try clear c14
   try clear c23
   try clear c24
   try clear c30
   try clear c31
   try clear c37
   try clear c38
   try clear c39
   try clear c43
   try clear c44
   try clear c45
   try clear c46
   try clear c48
   try clear c49
   try clear c52
   try clear c53
   try clear c54
   try clear c56
   try clear c57
   try clear hcz14_0
   try clear hcz14_1
   try clear hcz16_0
   try clear hcz16_1
   try clear hcz24_0
   try clear hcz24_1
   try clear hcz26_0
   try clear hcz26_1
   try clear hcz32_0
   try clear hcz32_1
   try clear hcz40_0
   try clear hcz40_1
   try clear hcz47_0
   try clear hcz47_1
   try clear hcz50_0
   try clear hcz50_1
   try clear hcz55_0
   try clear hcz55_1
   try clear hcz58_0
   try clear hcz58_1
   try clear hcz6_0
   try clear hcz6_1
   try clear hfz14_0
   try clear hfz14_1
   try clear hfz16_0
   try clear hfz16_1
   try clear hfz24_0
   try clear hfz24_1
   try clear hfz26_0
   try clear hfz26_1
   try clear hfz32_0
   try clear hfz32_1
   try clear hfz40_0
   try clear hfz40_1
   try clear hfz47_0
   try clear hfz47_1
   try clear hfz50_0
   try clear hfz50_1
   try clear hfz55_0
   try clear hfz55_1
   try clear hfz58_0
   try clear hfz58_1
   try clear hfz6_0
   try clear hfz6_1
   obtain ⟨kq, x44_11, rfl, HA, HJ11, HO_225000, HO_225001, HO_232000, HO_232001, HO_240000, HO_240001, BK209, BK224, BK231, BK239, HB⟩ := hcut
   cases kq with
   | zero => exact absurd HA.out (by simp [laws_FnExactFillLock.j0])
   | succ kj11 =>
    have H := HA.out
    clear HA
    simp only [laws_FnExactFillLock.j0] at H
    by_cases c60 : x44_11 = true
    ·subst c60
     have H1 : (some false) = some true := by first | (rw [if_pos rfl] at H; exact H) | rfl
     clear H
     have H := H1
     clear H1
     exact absurd H (by simp)
    ·replace c60 := Bool.eq_false_iff.mpr c60
     subst c60
     have H1 : ((laws_toFlight.f kj11 l0_0 l0_1).bind fun bt241 => ((laws_eqFlight.f kj11 t225 t228 bt241.1 bt241.2).bind fun t247 => (if t247 = true then ((laws_markFlight.f kj11 t225 t228 1).bind fun bt248 => (if bt248.1 < 0 then (laws_FnExactFillLock.j1 kj11 a1 t223 true l0_0 l0_1 t217 t220 t232 t235) else ((laws_eqFlight.f kj11 t232 t235 t217 t220).bind fun t251 => (if t251 = true then (laws_FnExactFillLock.j1 kj11 a1 t223 (t238 != t223) l0_0 l0_1 t217 t220 t232 t235) else (laws_FnExactFillLock.j1 kj11 a1 t223 true l0_0 l0_1 t217 t220 t232 t235))))) else (some false)))) = some true := by first | (rw [if_neg (show ¬ (false = true) by decide)] at H; exact H) | rfl
     clear H
     have H := H1
     clear H1
     replace H := Option.bind_eq_some_iff.mp H
     obtain ⟨⟨t241, t244⟩, A610, H⟩ := H
     replace H : ((laws_eqFlight.f kj11 t225 t228 t241 t244).bind fun t247 => (if t247 = true then ((laws_markFlight.f kj11 t225 t228 1).bind fun bt248 => (if bt248.1 < 0 then (laws_FnExactFillLock.j1 kj11 a1 t223 true l0_0 l0_1 t217 t220 t232 t235) else ((laws_eqFlight.f kj11 t232 t235 t217 t220).bind fun t251 => (if t251 = true then (laws_FnExactFillLock.j1 kj11 a1 t223 (t238 != t223) l0_0 l0_1 t217 t220 t232 t235) else (laws_FnExactFillLock.j1 kj11 a1 t223 true l0_0 l0_1 t217 t220 t232 t235))))) else (some false))) = some true := H
     have A61 := Aside0.mk A610
     clear A610
     replace H := Option.bind_eq_some_iff.mp H
     obtain ⟨t247, A620, H⟩ := H
     replace H : (if t247 = true then ((laws_markFlight.f kj11 t225 t228 1).bind fun bt248 => (if bt248.1 < 0 then (laws_FnExactFillLock.j1 kj11 a1 t223 true l0_0 l0_1 t217 t220 t232 t235) else ((laws_eqFlight.f kj11 t232 t235 t217 t220).bind fun t251 => (if t251 = true then (laws_FnExactFillLock.j1 kj11 a1 t223 (t238 != t223) l0_0 l0_1 t217 t220 t232 t235) else (laws_FnExactFillLock.j1 kj11 a1 t223 true l0_0 l0_1 t217 t220 t232 t235))))) else (some false)) = some true := H
     have A62 := Aside0.mk A620
     clear A620
     by_cases c63 : t247 = true
     ·subst c63
      have H1 : ((laws_markFlight.f kj11 t225 t228 1).bind fun bt248 => (if bt248.1 < 0 then (laws_FnExactFillLock.j1 kj11 a1 t223 true l0_0 l0_1 t217 t220 t232 t235) else ((laws_eqFlight.f kj11 t232 t235 t217 t220).bind fun t251 => (if t251 = true then (laws_FnExactFillLock.j1 kj11 a1 t223 (t238 != t223) l0_0 l0_1 t217 t220 t232 t235) else (laws_FnExactFillLock.j1 kj11 a1 t223 true l0_0 l0_1 t217 t220 t232 t235))))) = some true := by first | (rw [if_pos rfl] at H; exact H) | rfl
      clear H
      have H := H1
      clear H1
      replace H := Option.bind_eq_some_iff.mp H
      obtain ⟨⟨t248, t249, t250⟩, A640, H⟩ := H
      replace H : (if t248 < 0 then (laws_FnExactFillLock.j1 kj11 a1 t223 true l0_0 l0_1 t217 t220 t232 t235) else ((laws_eqFlight.f kj11 t232 t235 t217 t220).bind fun t251 => (if t251 = true then (laws_FnExactFillLock.j1 kj11 a1 t223 (t238 != t223) l0_0 l0_1 t217 t220 t232 t235) else (laws_FnExactFillLock.j1 kj11 a1 t223 true l0_0 l0_1 t217 t220 t232 t235)))) = some true := H
      have A64 := Aside0.mk A640
      clear A640
      have HC65 := Aside0.mk H
      clear H
      try go_wp2
      replace HO_225000 := xw HO_225000
      replace HO_225001 := xw HO_225001
      replace HO_232000 := xw HO_232000
      replace HO_232001 := xw HO_232001
      replace HO_240000 := xw HO_240000
      replace HO_240001 := xw HO_240001
      replace BK209 := xv BK209
      replace BK224 := xv BK224
      replace BK231 := xv BK231
      replace BK239 := xv BK239
      replace HB := Aside0.mk (below_drew1 HB.out)
      refine start_ (n := 5) (S := fun w' => w'.cell? ⟨gb231, 0, none⟩ = some (.slice Ao29 t225.length co29) ∧ w'.cell? ⟨gb231, 1, none⟩ = some (.slice Ao33 t228.length co33) ∧ w'.cell? ⟨gb209, 0, none⟩ = some (.slice A0_0 l0_0.length c0_0) ∧ w'.cell? ⟨gb209, 1, none⟩ = some (.slice A0_1 l0_1.length c0_1)) (ds := []) #[false, false, false, false, false] (by kernel_rfl) rfl rfl ⟨(blk_cell BK231.out 0).trans rfl, (blk_cell BK231.out 1).trans rfl, (blk_cell BK209.out 0).trans rfl, (blk_cell BK209.out 1).trans rfl⟩ (fun hHeld => ?_)
      generalize wc.drew = w66 at HO_225000 HO_225001 HO_232000 HO_232001 HO_240000 HO_240001 BK209 BK224 BK231 BK239 HB hHeld ⊢
      refine take_ (i := 0) (N := some 45) (v := ?_) (a' := ?_) #[true, false, false, false, false] rfl rfl (by kernel_rfl) (fun _ _ _ h => h) (Or.inl ⟨by rfl, ?_⟩) hHeld ?_ ?_
      rotate_left
      ·rintro w' ⟨s0, s1, s2, s3⟩
       go_simp
       with_reducible rfl
      rotate_left
      ·simp only [Act.put, List.setIfInBounds_toArray, List.set_cons_zero, List.set_cons_succ, i64_w, i32_w]
       rfl
      refine take_ (i := 1) (N := some 46) (v := ?_) (a' := ?_) #[true, true, false, false, false] rfl rfl (by kernel_rfl) (fun _ _ _ h => h) (Or.inl ⟨by rfl, ?_⟩) hHeld ?_ ?_
      rotate_left
      ·rintro w' ⟨s0, s1, s2, s3⟩
       go_simp
       with_reducible rfl
      rotate_left
      ·simp only [Act.put, List.setIfInBounds_toArray, List.set_cons_zero, List.set_cons_succ, i64_w, i32_w]
       rfl
      refine one_ (i := 2) (N := some 47) #[true, true, true, false, false] rfl rfl (by kernel_rfl) (by decide) (fun K hK => ?_)
      refine goes_ Try.func12 (by kernel_rfl) rfl #[.agg #[.slice A0_0 l0_0.length c0_0, .slice A0_1 l0_1.length c0_1]] (by rfl) rfl rfl (by (try simp only [List.map_toArray, List.map_cons, List.map_nil]); first | done | rfl | (simp only [List.length_drop, List.length_take]; rfl)) ?_
      with_reducible refine (laws_toFlight.calls kj11 _ _ l0_0 _ _ l0_1 t241 t244 _ ?side1 ?side2 ?side3 ?side4 A61.out).mono ?_
      (case side1 => exact xd ((Kd.C_below HR0_0.out HB.out)))
      (case side2 => exact HC0_0.out)
      (case side3 => exact xd ((Kd.C_below HR0_1.out HB.out)))
      (case side4 => exact HC0_1.out)
      rintro e w67 ⟨v242, v245, rfl, ho0, ho1, hb⟩
      refine ⟨_, rfl, ?_⟩
      have HO243 := Aside0.mk (Kd.R_lower (Kd.R_new' (Kd.R_new' (Kd.R_new' ho0 (Kd.R_lt (xr HO_225000.out))) (Kd.R_lt (xr HO_232000.out))) (Kd.R_lt (xr HO_240000.out))) (below_size (xs HB.out)))
      replace HO_225000 := Aside0.mk (Kd.R_elder' (xr HO_225000.out) (Kd.R_base ho0) hb)
      replace HO_232000 := Aside0.mk (Kd.R_elder' (xr HO_232000.out) (Kd.R_base ho0) hb)
      replace HO_240000 := Aside0.mk (Kd.R_elder' (xr HO_240000.out) (Kd.R_base ho0) hb)
      have HO246 := Aside0.mk (Kd.R_lower (Kd.R_new' (Kd.R_new' (Kd.R_new' ho1 (Kd.R_lt (xr HO_225001.out))) (Kd.R_lt (xr HO_232001.out))) (Kd.R_lt (xr HO_240001.out))) (below_size (xs HB.out)))
      replace HO_225001 := Aside0.mk (Kd.R_elder' (xr HO_225001.out) (Kd.R_base ho1) hb)
      replace HO_232001 := Aside0.mk (Kd.R_elder' (xr HO_232001.out) (Kd.R_base ho1) hb)
      replace HO_240001 := Aside0.mk (Kd.R_elder' (xr HO_240001.out) (Kd.R_base ho1) hb)
      replace BK209 := xk BK209 hb
      replace BK224 := xk BK224 hb
      replace BK231 := xk BK231 hb
      replace BK239 := xk BK239 hb
      replace HB := xp HB hb
      (try clear hb)
      (try clear hb2)
      (try clear hk)
      (try clear hi)
      (try clear ho0)
      (try clear ho1)
      obtain ⟨Ao68, co68, eo68⟩ := Kd.R_slice HO243.out
      (first | subst eo68 | (injection eo68 with f1_ f2_ f3_; have f4_ := f1_.symm; have f5_ := f3_.symm; clear f1_ f2_ f3_; subst f4_; subst f5_))
      obtain ⟨Ao69, co69, eo69⟩ := Kd.R_slice HO246.out
      (first | subst eo69 | (injection eo69 with f1_ f2_ f3_; have f4_ := f1_.symm; have f5_ := f3_.symm; clear f1_ f2_ f3_; subst f4_; subst f5_))
      refine hK.out _ _ ⟨(blk_cell BK231.out 0).trans rfl, (blk_cell BK231.out 1).trans rfl, (blk_cell BK209.out 0).trans rfl, (blk_cell BK209.out 1).trans rfl⟩ (fun hHeld => ?_)
      clear hK K
      refine norm_ (a' := ?_) ?_ ?_
      rotate_left
      ·show Act.put _ (some 47) _ = _
       simp only [Act.put, List.setIfInBounds_toArray, List.set_cons_zero, List.set_cons_succ, i64_w, i32_w]
       rfl
      refine one_ (i := 3) (N := some 48) #[true, true, true, true, false] rfl rfl (by kernel_rfl) (by decide) (fun K hK => ?_)
      refine goes_ Try.func14 (by kernel_rfl) rfl #[.agg #[.slice Ao29 t225.length co29, .slice Ao33 t228.length co33], .agg #[.slice Ao68 t241.length co68, .slice Ao69 t244.length co69]] (by rfl) rfl rfl (by (try simp only [List.map_toArray, List.map_cons, List.map_nil]); first | done | rfl | (simp only [List.length_drop, List.length_take]; rfl)) ?_
      with_reducible refine (laws_eqFlight.calls kj11 _ _ t225 _ _ t228 _ _ t241 _ _ t244 true _ ?side1 ?side2 ?side3 ?side4 ?side5 ?side6 ?side7 ?side8 A62.out).mono ?_
      (case side1 => exact xd ((Kd.R_reads' HO_232000.out).2.2))
      (case side2 => exact (Kd.R_reads' HO_232000.out).2.1)
      (case side3 => exact xd ((Kd.R_reads' HO_232001.out).2.2))
      (case side4 => exact (Kd.R_reads' HO_232001.out).2.1)
      (case side5 => exact xd ((Kd.R_reads' HO243.out).2.2))
      (case side6 => exact (Kd.R_reads' HO243.out).2.1)
      (case side7 => exact xd ((Kd.R_reads' HO246.out).2.2))
      (case side8 => exact (Kd.R_reads' HO246.out).2.1)
      rintro e w70 ⟨rfl, hb⟩
      refine ⟨_, rfl, ?_⟩
      replace HO_225000 := xq HO_225000 hb
      replace HO_225001 := xq HO_225001 hb
      replace HO_232000 := xq HO_232000 hb
      replace HO_232001 := xq HO_232001 hb
      replace HO_240000 := xq HO_240000 hb
      replace HO_240001 := xq HO_240001 hb
      replace HO243 := xq HO243 hb
      replace HO246 := xq HO246 hb
      replace BK209 := xk BK209 hb
      replace BK224 := xk BK224 hb
      replace BK231 := xk BK231 hb
      replace BK239 := xk BK239 hb
      replace HB := xp HB hb
      (try clear hb)
      (try clear hb2)
      (try clear hk)
      (try clear hi)
      refine hK.out _ _ ⟨(blk_cell BK231.out 0).trans rfl, (blk_cell BK231.out 1).trans rfl, (blk_cell BK209.out 0).trans rfl, (blk_cell BK209.out 1).trans rfl⟩ (fun hHeld => ?_)
      clear hK K
      refine norm_ (a' := ?_) ?_ ?_
      rotate_left
      ·show Act.put _ (some 48) _ = _
       simp only [Act.put, List.setIfInBounds_toArray, List.set_cons_zero, List.set_cons_succ, i64_w, i32_w]
       rfl
      refine pure_ (i := 4) (N := some 49) (v := ?_) (a' := ?_) #[true, true, true, true, true] rfl rfl (by kernel_rfl) (fun _ _ _ h => h) (Or.inl ⟨by rfl, ?_⟩) ?_ ?_
      rotate_left
      ·intro w'
       go_simp
       with_reducible rfl
      rotate_left
      ·simp only [Act.put, List.setIfInBounds_toArray, List.set_cons_zero, List.set_cons_succ, i64_w, i32_w]
       rfl
      refine done_ (by kernel_rfl) ?_
      have hnb71 := NB231_209.out
      have hnc71 := NB209_231.out
      have hnb72 := NB231_224.out
      have hnc72 := NB224_231.out
      have hnb73 := NB231_239.out
      have hnc73 := NB239_231.out
      have hcz74_0 : w70.cell? ⟨gb231, 0, none⟩ = some (.slice Ao29 t225.length co29) := (blk_cell BK231.out 0).trans rfl
      have hcz74_1 : w70.cell? ⟨gb231, 1, none⟩ = some (.slice Ao33 t228.length co33) := (blk_cell BK231.out 1).trans rfl
      have hfz74_0 := blk_frozen BK231.out 0
      have hfz74_1 := blk_frozen BK231.out 1
      go_upto_region 14 with (first | ((with_reducible refine gate_callee (f := 19) rfl ?_); refine goesL_ (some 52) rfl rfl Try.func19 (by kernel_rfl) rfl #[.agg #[.slice Ao29 t225.length co29, .slice Ao33 t228.length co33], .int .i64 1] rfl (by (try simp only [List.map_toArray, List.map_cons, List.map_nil]); first | done | rfl | (simp only [List.length_drop, List.length_take]; rfl)) ?_; (with_reducible refine (laws_markFlight.calls kj11 (fun k_ => some k_ = (.slice Ao29 t225.length co29 : Value).ownBlock) (.slice Ao29 t225.length co29) t225 (fun k_ => some k_ = (.slice Ao33 t228.length co33 : Value).ownBlock) (.slice Ao33 t228.length co33) t228 1 t248 t249 t250 w _ ?side1 ?side2 ?side3 A64.out).mono ?_); (case side1 => repeat (first | (with_reducible first | exact HB.out | apply below_alloc | apply pw_below_drewN | apply below_drew1 | refine below_set ?_ GE209.out | refine below_set ?_ GE224.out | refine below_set ?_ GE231.out | refine below_set ?_ GE239.out) | exact HB.out)); (case side2 => exact Kd.R_tight rfl HO_232000.out); (case side3 => exact Kd.R_tight rfl HO_232001.out); rintro e w75 ⟨rfl, hy0, hy1, hb, hkp⟩; refine ⟨_, rfl, ?_⟩; replace HO_225000 := Aside0.mk (Kd.R_mono (ok' := fun k_ => nS k_ Ao29 t225.length co29 ∧ nS k_ Ao36 t232.length co36 ∧ nS k_ Ao68 t241.length co68) (Kd.R_keptB ((Kd.R_apart' HO_225000.out (Kd.R_typed HO_232001.out) (by decide))) hkp (fun k_ hk_ hs_ => Or.elim hs_ (fun e_ => (hk_.1.1.1) e_) (fun e_ => (hk_.2) e_))) (fun k_ hk_ => ⟨hk_.1.1.1.1, hk_.1.1.1.2, hk_.1.1.2⟩)); replace HO_225001 := Aside0.mk (Kd.R_mono (ok' := fun k_ => nS k_ Ao33 t228.length co33 ∧ nS k_ Ao41 t235.length co41 ∧ nS k_ Ao69 t244.length co69) (Kd.R_keptB ((Kd.R_apart' HO_225001.out (Kd.R_typed HO_232000.out) (by decide))) hkp (fun k_ hk_ hs_ => Or.elim hs_ (fun e_ => (hk_.2) e_) (fun e_ => (hk_.1.1.1) e_))) (fun k_ hk_ => ⟨hk_.1.1.1.1, hk_.1.1.1.2, hk_.1.1.2⟩)); replace HO_240000 := Aside0.mk (Kd.R_mono (ok' := fun k_ => nS k_ Ao22 t217.length co22 ∧ nS k_ Ao29 t225.length co29 ∧ nS k_ Ao68 t241.length co68) (Kd.R_keptB ((Kd.R_apart' HO_240000.out (Kd.R_typed HO_232001.out) (by decide))) hkp (fun k_ hk_ hs_ => Or.elim hs_ (fun e_ => (hk_.1.1.2) e_) (fun e_ => (hk_.2) e_))) (fun k_ hk_ => ⟨hk_.1.1.1.1, hk_.1.1.1.2, hk_.1.1.2⟩)); replace HO_240001 := Aside0.mk (Kd.R_mono (ok' := fun k_ => nS k_ Ao25 t220.length co25 ∧ nS k_ Ao33 t228.length co33 ∧ nS k_ Ao69 t244.length co69) (Kd.R_keptB ((Kd.R_apart' HO_240001.out (Kd.R_typed HO_232000.out) (by decide))) hkp (fun k_ hk_ hs_ => Or.elim hs_ (fun e_ => (hk_.2) e_) (fun e_ => (hk_.1.1.2) e_))) (fun k_ hk_ => ⟨hk_.1.1.1.1, hk_.1.1.1.2, hk_.1.1.2⟩)); replace BK209 := Aside0.mk (blk_kept (xb BK209.out) hkp (fun hs_ => Or.elim hs_ (fun e_ => (fun e_ => (Kd.R_ne HO_232000.out BK209.out (by decide)) e_) e_) (fun e_ => (fun e_ => (Kd.R_ne HO_232001.out BK209.out (by decide)) e_) e_))); replace BK224 := Aside0.mk (blk_kept (xb BK224.out) hkp (fun hs_ => Or.elim hs_ (fun e_ => (fun e_ => (Kd.R_ne HO_232000.out BK224.out (by decide)) e_) e_) (fun e_ => (fun e_ => (Kd.R_ne HO_232001.out BK224.out (by decide)) e_) e_))); replace BK231 := Aside0.mk (blk_kept (xb BK231.out) hkp (fun hs_ => Or.elim hs_ (fun e_ => (fun e_ => (Kd.R_ne HO_232000.out BK231.out (by decide)) e_) e_) (fun e_ => (fun e_ => (Kd.R_ne HO_232001.out BK231.out (by decide)) e_) e_))); replace BK239 := Aside0.mk (blk_kept (xb BK239.out) hkp (fun hs_ => Or.elim hs_ (fun e_ => (fun e_ => (Kd.R_ne HO_232000.out BK239.out (by decide)) e_) e_) (fun e_ => (fun e_ => (Kd.R_ne HO_232001.out BK239.out (by decide)) e_) e_))); replace HO243 := Aside0.mk (Kd.R_mono (ok' := fun k_ => nS k_ Ao22 t217.length co22 ∧ nS k_ Ao29 t225.length co29 ∧ nS k_ Ao36 t232.length co36) (Kd.R_keptB ((Kd.R_apart' HO243.out (Kd.R_typed HO_232001.out) (by decide))) hkp (fun k_ hk_ hs_ => Or.elim hs_ (fun e_ => (hk_.1.1.2) e_) (fun e_ => (hk_.2) e_))) (fun k_ hk_ => ⟨hk_.1.1.1.1.2, hk_.1.1.1.2, hk_.1.1.2⟩)); replace HO_232001 := Aside0.mk (Kd.R_reok rfl hy1 (fun k_ e_ => HO_232001.out.1 k_ e_)); replace HO246 := Aside0.mk (Kd.R_mono (ok' := fun k_ => nS k_ Ao25 t220.length co25 ∧ nS k_ Ao33 t228.length co33 ∧ nS k_ Ao41 t235.length co41) (Kd.R_keptB ((Kd.R_apart' HO246.out (Kd.R_typed HO_232000.out) (by decide))) hkp (fun k_ hk_ hs_ => Or.elim hs_ (fun e_ => (hk_.2) e_) (fun e_ => (hk_.1.1.2) e_))) (fun k_ hk_ => ⟨hk_.1.1.1.1.2, hk_.1.1.1.2, hk_.1.1.2⟩)); replace HO_232000 := Aside0.mk (Kd.R_reok rfl hy0 (fun k_ e_ => HO_232000.out.1 k_ e_)); replace HB := Aside0.mk (hb); (try clear hb); (try clear hkp); (try clear hy0); (try clear hy1)))
      (try simp only [Act.put, List.setIfInBounds_toArray, List.set_cons_zero, List.set_cons_succ])
      go_cut [65] (fun v65 wc => ∃ (kq : Nat) (x65_64 : Bool), v65 = .bool x65_64 ∧ Aside0 (laws_FnExactFillLock.j1 kq a1 t223 x65_64 l0_0 l0_1 t217 t220 t232 t235 = some true) ∧ Aside0 (kq ≤ kj11) ∧ Aside0 (Kd.R (Kd.int .i64) 3 wc w.heap.size (fun k_ => nS k_ Ao29 t225.length co29 ∧ nS k_ Ao36 t232.length co36) (.slice Ao22 t217.length co22) t217) ∧ Aside0 (Kd.R Kd.bool 4 wc w.heap.size (fun k_ => nS k_ Ao33 t228.length co33 ∧ nS k_ Ao41 t235.length co41) (.slice Ao25 t220.length co25) t220) ∧ Aside0 (Kd.R (Kd.int .i64) 3 wc w.heap.size (fun k_ => nS k_ Ao22 t217.length co22 ∧ nS k_ Ao36 t232.length co36) (.slice Ao29 t225.length co29) t249) ∧ Aside0 (Kd.R Kd.bool 4 wc w.heap.size (fun k_ => nS k_ Ao25 t220.length co25 ∧ nS k_ Ao41 t235.length co41) (.slice Ao33 t228.length co33) t250) ∧ Aside0 (Kd.R (Kd.int .i64) 3 wc w.heap.size (fun k_ => nS k_ Ao22 t217.length co22 ∧ nS k_ Ao29 t225.length co29) (.slice Ao36 t232.length co36) t232) ∧ Aside0 (Kd.R Kd.bool 4 wc w.heap.size (fun k_ => nS k_ Ao25 t220.length co25 ∧ nS k_ Ao33 t228.length co33) (.slice Ao41 t235.length co41) t235) ∧ Aside0 (wc.heap[gb209]? = some (.cells #[(.slice A0_0 l0_0.length c0_0), (.slice A0_1 l0_1.length c0_1)] 25 (0, 0))) ∧ Aside0 (wc.heap[gb224]? = some (.cells #[(.slice Ao22 t217.length co22), (.slice Ao25 t220.length co25)] 29 (0, 0))) ∧ Aside0 (wc.heap[gb231]? = some (.cells #[(.slice Ao29 t225.length co29), (.slice Ao33 t228.length co33)] 29 (0, 0))) ∧ Aside0 (wc.heap[gb239]? = some (.cells #[(.slice Ao36 t232.length co36), (.slice Ao41 t235.length co41)] 29 (0, 0))) ∧ Aside0 (Below w.heap.size w wc))
      case first =>
       have H := HC65.out
       clear HC65
       by_cases c76 : t248 < 0
       ·rw [if_pos c76] at H
        have c76b0 : decide (t248 < 0) = true := decide_eq_true c76
        clear c76
        (first | rw [c76b0] | (simp only [i64_w, i32_w]; rw [c76b0]) | skip)
        have H' := Aside0.mk H
        clear H
        go_wp2
        go_meet
        case rel => exact ⟨_, (true), (by first | rfl | (simp; done) | (simp [*]; done)), H', ⟨by have := HJ11.out; first | omega | exact Nat.le_refl _⟩, ⟨xm HO_225000 (fun _ hk => ⟨hk.1, hk.2.1⟩)⟩, ⟨xm HO_225001 (fun _ hk => ⟨hk.1, hk.2.1⟩)⟩, ⟨xm HO_232000 (fun _ hk => ⟨hk.1.1, hk.1.2⟩)⟩, ⟨xm HO_232001 (fun _ hk => ⟨hk.1.1, hk.1.2⟩)⟩, ⟨xm HO_240000 (fun _ hk => ⟨hk.1, hk.2.1⟩)⟩, ⟨xm HO_240001 (fun _ hk => ⟨hk.1, hk.2.1⟩)⟩, ⟨xb BK209.out⟩, ⟨xb BK224.out⟩, ⟨xb BK231.out⟩, ⟨xb BK239.out⟩, ⟨xs HB.out⟩⟩
       ·rw [if_neg c76] at H
        have c76b0 : decide (t248 < 0) = false := decide_eq_false c76
        clear c76
        (first | rw [c76b0] | (simp only [i64_w, i32_w]; rw [c76b0]) | skip)
        replace H := Option.bind_eq_some_iff.mp H
        obtain ⟨t251, A770, H⟩ := H
        replace H : (if t251 = true then (laws_FnExactFillLock.j1 kj11 a1 t223 (t238 != t223) l0_0 l0_1 t217 t220 t232 t235) else (laws_FnExactFillLock.j1 kj11 a1 t223 true l0_0 l0_1 t217 t220 t232 t235)) = some true := H
        have A77 := Aside0.mk A770
        clear A770
        by_cases c78 : t251 = true
        ·subst c78
         have H1 : (laws_FnExactFillLock.j1 kj11 a1 t223 (t238 != t223) l0_0 l0_1 t217 t220 t232 t235) = some true := by first | (rw [if_pos rfl] at H; exact H) | rfl
         clear H
         have H := H1
         clear H1
         have H' := Aside0.mk H
         clear H
         have hnb79 := NB239_209.out
         have hnc79 := NB209_239.out
         have hnb80 := NB239_224.out
         have hnc80 := NB224_239.out
         have hnb81 := NB239_231.out
         have hnc81 := NB231_239.out
         have hcz82_0 : w75.cell? ⟨gb239, 0, none⟩ = some (.slice Ao36 t232.length co36) := (blk_cell BK239.out 0).trans rfl
         have hcz82_1 : w75.cell? ⟨gb239, 1, none⟩ = some (.slice Ao41 t235.length co41) := (blk_cell BK239.out 1).trans rfl
         have hfz82_0 := blk_frozen BK239.out 0
         have hfz82_1 := blk_frozen BK239.out 1
         have hnb83 := NB224_209.out
         have hnc83 := NB209_224.out
         have hnb84 := NB224_231.out
         have hnc84 := NB231_224.out
         have hcz85_0 : w75.cell? ⟨gb224, 0, none⟩ = some (.slice Ao22 t217.length co22) := (blk_cell BK224.out 0).trans rfl
         have hcz85_1 : w75.cell? ⟨gb224, 1, none⟩ = some (.slice Ao25 t220.length co25) := (blk_cell BK224.out 1).trans rfl
         have hfz85_0 := blk_frozen BK224.out 0
         have hfz85_1 := blk_frozen BK224.out 1
         go_wp2_with (first | (go_at_call 14; (with_reducible refine (laws_eqFlight.calls kj11 _ _ t232 _ _ t235 _ _ t217 _ _ t220 true _ ?side1 ?side2 ?side3 ?side4 ?side5 ?side6 ?side7 ?side8 A77.out).mono ?_); (case side1 => exact xd ((Kd.R_reads' HO_240000.out).2.2)); (case side2 => exact (Kd.R_reads' HO_240000.out).2.1); (case side3 => exact xd ((Kd.R_reads' HO_240001.out).2.2)); (case side4 => exact (Kd.R_reads' HO_240001.out).2.1); (case side5 => exact xd ((Kd.R_reads' HO_225000.out).2.2)); (case side6 => exact (Kd.R_reads' HO_225000.out).2.1); (case side7 => exact xd ((Kd.R_reads' HO_225001.out).2.2)); (case side8 => exact (Kd.R_reads' HO_225001.out).2.1); rintro e w86 ⟨rfl, hb⟩; replace HO_225000 := xq HO_225000 hb; replace HO_225001 := xq HO_225001 hb; replace HO_232000 := xq HO_232000 hb; replace HO_232001 := xq HO_232001 hb; replace HO_240000 := xq HO_240000 hb; replace HO_240001 := xq HO_240001 hb; replace HO243 := xq HO243 hb; replace HO246 := xq HO246 hb; replace BK209 := xk BK209 hb; replace BK224 := xk BK224 hb; replace BK231 := xk BK231 hb; replace BK239 := xk BK239 hb; replace HB := xp HB hb; (try clear hb); (try clear hb2); (try clear hk); (try clear hi)))
         go_meet
         case rel => exact ⟨_, ((t238 != t223)), (by first | rfl | (simp; done) | (simp [*]; done)), H', ⟨by have := HJ11.out; first | omega | exact Nat.le_refl _⟩, ⟨xm HO_225000 (fun _ hk => ⟨hk.1, hk.2.1⟩)⟩, ⟨xm HO_225001 (fun _ hk => ⟨hk.1, hk.2.1⟩)⟩, ⟨xm HO_232000 (fun _ hk => ⟨hk.1.1, hk.1.2⟩)⟩, ⟨xm HO_232001 (fun _ hk => ⟨hk.1.1, hk.1.2⟩)⟩, ⟨xm HO_240000 (fun _ hk => ⟨hk.1, hk.2.1⟩)⟩, ⟨xm HO_240001 (fun _ hk => ⟨hk.1, hk.2.1⟩)⟩, ⟨xb BK209.out⟩, ⟨xb BK224.out⟩, ⟨xb BK231.out⟩, ⟨xb BK239.out⟩, ⟨xs HB.out⟩⟩
        ·replace c78 := Bool.eq_false_iff.mpr c78
         subst c78
         have H1 : (laws_FnExactFillLock.j1 kj11 a1 t223 true l0_0 l0_1 t217 t220 t232 t235) = some true := by first | (rw [if_neg (show ¬ (false = true) by decide)] at H; exact H) | rfl
         clear H
         have H := H1
         clear H1
         have H' := Aside0.mk H
         clear H
         have hnb87 := NB239_209.out
         have hnc87 := NB209_239.out
         have hnb88 := NB239_224.out
         have hnc88 := NB224_239.out
         have hnb89 := NB239_231.out
         have hnc89 := NB231_239.out
         have hcz90_0 : w75.cell? ⟨gb239, 0, none⟩ = some (.slice Ao36 t232.length co36) := (blk_cell BK239.out 0).trans rfl
         have hcz90_1 : w75.cell? ⟨gb239, 1, none⟩ = some (.slice Ao41 t235.length co41) := (blk_cell BK239.out 1).trans rfl
         have hfz90_0 := blk_frozen BK239.out 0
         have hfz90_1 := blk_frozen BK239.out 1
         have hnb91 := NB224_209.out
         have hnc91 := NB209_224.out
         have hnb92 := NB224_231.out
         have hnc92 := NB231_224.out
         have hcz93_0 : w75.cell? ⟨gb224, 0, none⟩ = some (.slice Ao22 t217.length co22) := (blk_cell BK224.out 0).trans rfl
         have hcz93_1 : w75.cell? ⟨gb224, 1, none⟩ = some (.slice Ao25 t220.length co25) := (blk_cell BK224.out 1).trans rfl
         have hfz93_0 := blk_frozen BK224.out 0
         have hfz93_1 := blk_frozen BK224.out 1
         go_wp2_with (first | (go_at_call 14; (with_reducible refine (laws_eqFlight.calls kj11 _ _ t232 _ _ t235 _ _ t217 _ _ t220 false _ ?side1 ?side2 ?side3 ?side4 ?side5 ?side6 ?side7 ?side8 A77.out).mono ?_); (case side1 => exact xd ((Kd.R_reads' HO_240000.out).2.2)); (case side2 => exact (Kd.R_reads' HO_240000.out).2.1); (case side3 => exact xd ((Kd.R_reads' HO_240001.out).2.2)); (case side4 => exact (Kd.R_reads' HO_240001.out).2.1); (case side5 => exact xd ((Kd.R_reads' HO_225000.out).2.2)); (case side6 => exact (Kd.R_reads' HO_225000.out).2.1); (case side7 => exact xd ((Kd.R_reads' HO_225001.out).2.2)); (case side8 => exact (Kd.R_reads' HO_225001.out).2.1); rintro e w94 ⟨rfl, hb⟩; replace HO_225000 := xq HO_225000 hb; replace HO_225001 := xq HO_225001 hb; replace HO_232000 := xq HO_232000 hb; replace HO_232001 := xq HO_232001 hb; replace HO_240000 := xq HO_240000 hb; replace HO_240001 := xq HO_240001 hb; replace HO243 := xq HO243 hb; replace HO246 := xq HO246 hb; replace BK209 := xk BK209 hb; replace BK224 := xk BK224 hb; replace BK231 := xk BK231 hb; replace BK239 := xk BK239 hb; replace HB := xp HB hb; (try clear hb); (try clear hb2); (try clear hk); (try clear hi)))
         go_meet
         case rel => exact ⟨_, (true), (by first | rfl | (simp; done) | (simp [*]; done)), H', ⟨by have := HJ11.out; first | omega | exact Nat.le_refl _⟩, ⟨xm HO_225000 (fun _ hk => ⟨hk.1, hk.2.1⟩)⟩, ⟨xm HO_225001 (fun _ hk => ⟨hk.1, hk.2.1⟩)⟩, ⟨xm HO_232000 (fun _ hk => ⟨hk.1.1, hk.1.2⟩)⟩, ⟨xm HO_232001 (fun _ hk => ⟨hk.1.1, hk.1.2⟩)⟩, ⟨xm HO_240000 (fun _ hk => ⟨hk.1, hk.2.1⟩)⟩, ⟨xm HO_240001 (fun _ hk => ⟨hk.1, hk.2.1⟩)⟩, ⟨xb BK209.out⟩, ⟨xb BK224.out⟩, ⟨xb BK231.out⟩, ⟨xb BK239.out⟩, ⟨xs HB.out⟩⟩
      case rest =>
       clear HC65
       try clear c1
       try clear c2
       try clear p2
       try clear c3
       try clear c4
       try clear c4b0
       try clear c5
       try clear c6
       try clear c7
       try clear c8
       try clear c9
       try clear c10
       try clear c12
       try clear c14
       try clear c19
       try clear c23
       try clear c24
       try clear c30
       try clear c31
       try clear c37
       try clear c38
       try clear c39
       try clear c43
       try clear c44
       try clear c45
       try clear c46
       try clear c48
       try clear c49
       try clear c52
       try clear c53
       try clear c54
       try clear c56
       try clear c57
       try clear c60
       try clear c63
       try clear c71
       try clear c72
       try clear c73
       try clear c76
       try clear c76b0
       try clear c78
       try clear c79
       try clear c80
       try clear c81
       try clear c83
       try clear c84
       try clear c87
       try clear c88
       try clear c89
       try clear c91
       try clear c92
       try clear hcz14_0
       try clear hcz14_1
       try clear hcz16_0
       try clear hcz16_1
       try clear hcz24_0
       try clear hcz24_1
       try clear hcz26_0
       try clear hcz26_1
       try clear hcz32_0
       try clear hcz32_1
       try clear hcz40_0
       try clear hcz40_1
       try clear hcz47_0
       try clear hcz47_1
       try clear hcz50_0
       try clear hcz50_1
       try clear hcz55_0
       try clear hcz55_1
       try clear hcz58_0
       try clear hcz58_1
       try clear hcz6_0
       try clear hcz6_1
       try clear hcz74_0
       try clear hcz74_1
       try clear hcz82_0
       try clear hcz82_1
       try clear hcz85_0
       try clear hcz85_1
       try clear hcz90_0
       try clear hcz90_1
       try clear hcz93_0
       try clear hcz93_1
       try clear hfz14_0
       try clear hfz14_1
       try clear hfz16_0
       try clear hfz16_1
       try clear hfz24_0
       try clear hfz24_1
       try clear hfz26_0
       try clear hfz26_1
       try clear hfz32_0
       try clear hfz32_1
       try clear hfz40_0
       try clear hfz40_1
       try clear hfz47_0
       try clear hfz47_1
       try clear hfz50_0
       try clear hfz50_1
       try clear hfz55_0
       try clear hfz55_1
       try clear hfz58_0
       try clear hfz58_1
       try clear hfz6_0
       try clear hfz6_1
       try clear hfz74_0
       try clear hfz74_1
       try clear hfz82_0
       try clear hfz82_1
       try clear hfz85_0
       try clear hfz85_1
       try clear hfz90_0
       try clear hfz90_1
       try clear hfz93_0
       try clear hfz93_1
       try clear p2
       obtain ⟨kq, x65_64, rfl, HA, HJ64, HO_225000, HO_225001, HO_232000, HO_232001, HO_240000, HO_240001, BK209, BK224, BK231, BK239, HB⟩ := hcut
       have hl232000_64 := (Kd.R_reads' HO_232000.out).1
       rw [hl232000_64] at HO_232000
       (try simp only [hl232000_64])
       (try simp only [hl232000_64] at BK209)
       (try simp only [hl232000_64] at BK224)
       (try simp only [hl232000_64] at BK231)
       (try simp only [hl232000_64] at BK239)
       (try simp only [hl232000_64] at HO_225000)
       (try simp only [hl232000_64] at HO_225001)
       (try simp only [hl232000_64] at HO_232001)
       (try simp only [hl232000_64] at HO_240000)
       (try simp only [hl232000_64] at HO_240001)
       have hl232001_64 := (Kd.R_reads' HO_232001.out).1
       rw [hl232001_64] at HO_232001
       (try simp only [hl232001_64])
       (try simp only [hl232001_64] at BK209)
       (try simp only [hl232001_64] at BK224)
       (try simp only [hl232001_64] at BK231)
       (try simp only [hl232001_64] at BK239)
       (try simp only [hl232001_64] at HO_225000)
       (try simp only [hl232001_64] at HO_225001)
       (try simp only [hl232001_64] at HO_232000)
       (try simp only [hl232001_64] at HO_240000)
       (try simp only [hl232001_64] at HO_240001)
       cases kq with
       | zero => exact absurd HA.out (by simp [laws_FnExactFillLock.j1])
       | succ kj64 =>
        have H := HA.out
        clear HA
        simp only [laws_FnExactFillLock.j1] at H
        by_cases c95 : x65_64 = true
        ·subst c95
         have H1 : (some false) = some true := by first | (rw [if_pos rfl] at H; exact H) | rfl
         clear H
         have H := H1
         clear H1
         exact absurd H (by simp)
        ·replace c95 := Bool.eq_false_iff.mpr c95
         subst c95
         have H1 : ((laws_markFlight.f kj64 t232 t235 1).bind fun bt252 => ((laws_heldFlight.f kj64 bt252.2.1 bt252.2.2 1).bind fun t255 => (if t255 < 0 then (some false) else (if t255 = bt252.1 then ((laws_toFlight.f kj64 l0_0 l0_1).bind fun bt256 => ((impl_FillLock.f bt256.1 bt256.2 a1).bind fun bt262 => ((laws_eqFlight.f kj64 bt262.1 bt262.2.1 t217 t220).bind fun t270 => (if t270 = true then (laws_FnExactFillLock.j2 kj64 bt252.1 (bt262.2.2 != t223) bt252.2.1 bt252.2.2) else (laws_FnExactFillLock.j2 kj64 bt252.1 true bt252.2.1 bt252.2.2))))) else (some false))))) = some true := by first | (rw [if_neg (show ¬ (false = true) by decide)] at H; exact H) | rfl
         clear H
         have H := H1
         clear H1
         replace H := Option.bind_eq_some_iff.mp H
         obtain ⟨⟨t252, t253, t254⟩, A960, H⟩ := H
         replace H : ((laws_heldFlight.f kj64 t253 t254 1).bind fun t255 => (if t255 < 0 then (some false) else (if t255 = t252 then ((laws_toFlight.f kj64 l0_0 l0_1).bind fun bt256 => ((impl_FillLock.f bt256.1 bt256.2 a1).bind fun bt262 => ((laws_eqFlight.f kj64 bt262.1 bt262.2.1 t217 t220).bind fun t270 => (if t270 = true then (laws_FnExactFillLock.j2 kj64 t252 (bt262.2.2 != t223) t253 t254) else (laws_FnExactFillLock.j2 kj64 t252 true t253 t254))))) else (some false)))) = some true := H
         have A96 := Aside0.mk A960
         clear A960
         replace H := Option.bind_eq_some_iff.mp H
         obtain ⟨t255, A970, H⟩ := H
         replace H : (if t255 < 0 then (some false) else (if t255 = t252 then ((laws_toFlight.f kj64 l0_0 l0_1).bind fun bt256 => ((impl_FillLock.f bt256.1 bt256.2 a1).bind fun bt262 => ((laws_eqFlight.f kj64 bt262.1 bt262.2.1 t217 t220).bind fun t270 => (if t270 = true then (laws_FnExactFillLock.j2 kj64 t252 (bt262.2.2 != t223) t253 t254) else (laws_FnExactFillLock.j2 kj64 t252 true t253 t254))))) else (some false))) = some true := H
         have A97 := Aside0.mk A970
         clear A970
         by_cases c98 : t255 < 0
         ·rw [if_pos c98] at H
          have c98b0 : decide (t255 < 0) = true := decide_eq_true c98
          clear c98
          exact absurd H (by simp)
         ·rw [if_neg c98] at H
          have c98b0 : decide (t255 < 0) = false := decide_eq_false c98
          clear c98
          by_cases c99 : t255 = t252
          ·rw [if_pos c99] at H
           have c99b0 : (t255 == t252) = true := beq_iff_eq.mpr c99
           have c99b1 : (t255 != t252) = false := bne_eq_false_iff_eq.mpr c99
           clear c99
           replace H := Option.bind_eq_some_iff.mp H
           obtain ⟨⟨t256, t259⟩, A1000, H⟩ := H
           replace H : ((impl_FillLock.f t256 t259 a1).bind fun bt262 => ((laws_eqFlight.f kj64 bt262.1 bt262.2.1 t217 t220).bind fun t270 => (if t270 = true then (laws_FnExactFillLock.j2 kj64 t252 (bt262.2.2 != t223) t253 t254) else (laws_FnExactFillLock.j2 kj64 t252 true t253 t254)))) = some true := H
           have A100 := Aside0.mk A1000
           clear A1000
           replace H := Option.bind_eq_some_iff.mp H
           obtain ⟨⟨t262, t265, t268⟩, A1010, H⟩ := H
           replace H : ((laws_eqFlight.f kj64 t262 t265 t217 t220).bind fun t270 => (if t270 = true then (laws_FnExactFillLock.j2 kj64 t252 (t268 != t223) t253 t254) else (laws_FnExactFillLock.j2 kj64 t252 true t253 t254))) = some true := H
           have A101 := Aside0.mk A1010
           clear A1010
           have HC102 := Aside0.mk H
           clear H
           have hnb103 := NB239_209.out
           have hnc103 := NB209_239.out
           have hnb104 := NB239_224.out
           have hnc104 := NB224_239.out
           have hnb105 := NB239_231.out
           have hnc105 := NB231_239.out
           have hcz106_0 : wc.cell? ⟨gb239, 0, none⟩ = some (.slice Ao36 t232.length co36) := (blk_cell BK239.out 0).trans rfl
           have hcz106_1 : wc.cell? ⟨gb239, 1, none⟩ = some (.slice Ao41 t235.length co41) := (blk_cell BK239.out 1).trans rfl
           have hfz106_0 := blk_frozen BK239.out 0
           have hfz106_1 := blk_frozen BK239.out 1
           go_upto_region 25 with (first | ((with_reducible refine gate_callee (f := 19) rfl ?_); refine goesL_ (some 68) rfl rfl Try.func19 (by kernel_rfl) rfl #[.agg #[.slice Ao36 t232.length co36, .slice Ao41 t235.length co41], .int .i64 1] rfl (by (try simp only [List.map_toArray, List.map_cons, List.map_nil]); first | done | rfl | (simp only [List.length_drop, List.length_take]; rfl)) ?_; (with_reducible refine (laws_markFlight.calls kj64 (fun k_ => some k_ = (.slice Ao36 t232.length co36 : Value).ownBlock) (.slice Ao36 t232.length co36) t232 (fun k_ => some k_ = (.slice Ao41 t235.length co41 : Value).ownBlock) (.slice Ao41 t235.length co41) t235 1 t252 t253 t254 w _ ?side1 ?side2 ?side3 A96.out).mono ?_); (case side1 => repeat (first | (with_reducible first | exact HB.out | apply below_alloc | apply pw_below_drewN | apply below_drew1 | refine below_set ?_ GE209.out | refine below_set ?_ GE224.out | refine below_set ?_ GE231.out | refine below_set ?_ GE239.out) | exact HB.out)); (case side2 => exact Kd.R_tight rfl HO_240000.out); (case side3 => exact Kd.R_tight rfl HO_240001.out); rintro e w107 ⟨rfl, hy0, hy1, hb, hkp⟩; refine ⟨_, rfl, ?_⟩; replace HO_225000 := Aside0.mk (Kd.R_mono (ok' := fun k_ => nS k_ Ao29 t249.length co29 ∧ nS k_ Ao36 t232.length co36) (Kd.R_keptB ((Kd.R_apart' HO_225000.out (Kd.R_typed HO_240001.out) (by decide))) hkp (fun k_ hk_ hs_ => Or.elim hs_ (fun e_ => (hk_.1.2) e_) (fun e_ => (hk_.2) e_))) (fun k_ hk_ => ⟨hk_.1.1.1, hk_.1.1.2⟩)); replace HO_225001 := Aside0.mk (Kd.R_mono (ok' := fun k_ => nS k_ Ao33 t250.length co33 ∧ nS k_ Ao41 t235.length co41) (Kd.R_keptB ((Kd.R_apart' HO_225001.out (Kd.R_typed HO_240000.out) (by decide))) hkp (fun k_ hk_ hs_ => Or.elim hs_ (fun e_ => (hk_.2) e_) (fun e_ => (hk_.1.2) e_))) (fun k_ hk_ => ⟨hk_.1.1.1, hk_.1.1.2⟩)); replace HO_232000 := Aside0.mk (Kd.R_mono (ok' := fun k_ => nS k_ Ao22 t217.length co22 ∧ nS k_ Ao36 t232.length co36) (Kd.R_keptB ((Kd.R_apart' HO_232000.out (Kd.R_typed HO_240001.out) (by decide))) hkp (fun k_ hk_ hs_ => Or.elim hs_ (fun e_ => (hk_.1.2) e_) (fun e_ => (hk_.2) e_))) (fun k_ hk_ => ⟨hk_.1.1.1, hk_.1.1.2⟩)); replace HO_232001 := Aside0.mk (Kd.R_mono (ok' := fun k_ => nS k_ Ao25 t220.length co25 ∧ nS k_ Ao41 t235.length co41) (Kd.R_keptB ((Kd.R_apart' HO_232001.out (Kd.R_typed HO_240000.out) (by decide))) hkp (fun k_ hk_ hs_ => Or.elim hs_ (fun e_ => (hk_.2) e_) (fun e_ => (hk_.1.2) e_))) (fun k_ hk_ => ⟨hk_.1.1.1, hk_.1.1.2⟩)); replace BK209 := Aside0.mk (blk_kept (xb BK209.out) hkp (fun hs_ => Or.elim hs_ (fun e_ => (fun e_ => (Kd.R_ne HO_240000.out BK209.out (by decide)) e_) e_) (fun e_ => (fun e_ => (Kd.R_ne HO_240001.out BK209.out (by decide)) e_) e_))); replace BK224 := Aside0.mk (blk_kept (xb BK224.out) hkp (fun hs_ => Or.elim hs_ (fun e_ => (fun e_ => (Kd.R_ne HO_240000.out BK224.out (by decide)) e_) e_) (fun e_ => (fun e_ => (Kd.R_ne HO_240001.out BK224.out (by decide)) e_) e_))); replace BK231 := Aside0.mk (blk_kept (xb BK231.out) hkp (fun hs_ => Or.elim hs_ (fun e_ => (fun e_ => (Kd.R_ne HO_240000.out BK231.out (by decide)) e_) e_) (fun e_ => (fun e_ => (Kd.R_ne HO_240001.out BK231.out (by decide)) e_) e_))); replace BK239 := Aside0.mk (blk_kept (xb BK239.out) hkp (fun hs_ => Or.elim hs_ (fun e_ => (fun e_ => (Kd.R_ne HO_240000.out BK239.out (by decide)) e_) e_) (fun e_ => (fun e_ => (Kd.R_ne HO_240001.out BK239.out (by decide)) e_) e_))); replace HO_240000 := Aside0.mk (Kd.R_reok rfl hy0 (fun k_ e_ => HO_240000.out.1 k_ e_)); replace HO_240001 := Aside0.mk (Kd.R_reok rfl hy1 (fun k_ e_ => HO_240001.out.1 k_ e_)); replace HB := Aside0.mk (hb); (try clear hb); (try clear hkp); (try clear hy0); (try clear hy1); have hcz108_0 : w107.cell? ⟨gb239, 0, none⟩ = some (.slice Ao36 t232.length co36) := (blk_cell BK239.out 0).trans rfl; have hcz108_1 : w107.cell? ⟨gb239, 1, none⟩ = some (.slice Ao41 t235.length co41) := (blk_cell BK239.out 1).trans rfl; have hfz108_0 := blk_frozen BK239.out 0; have hfz108_1 := blk_frozen BK239.out 1) | ((with_reducible refine gate_callee (f := 20) rfl ?_); refine goesL_ (some 71) rfl rfl Try.func20 (by kernel_rfl) rfl #[.agg #[.slice Ao36 t253.length co36, .slice Ao41 t254.length co41], .int .i64 1] rfl (by (try simp only [List.map_toArray, List.map_cons, List.map_nil]); first | done | (rw [show t253.length = t232.length from (Kd.R_reads' HO_240000.out).1.symm, show t254.length = t235.length from (Kd.R_reads' HO_240001.out).1.symm] <;> rfl) | rfl | (simp only [List.length_drop, List.length_take]; rfl)) ?_; (with_reducible refine (laws_heldFlight.calls kj64 _ _ t253 _ _ t254 1 t255 _ ?side1 ?side2 ?side3 ?side4 A97.out).mono ?_); (case side1 => exact xd ((Kd.R_reads' HO_240000.out).2.2)); (case side2 => rw [show t253.length = t232.length from (Kd.R_reads' HO_240000.out).1.symm]; exact (Kd.R_reads' HO_240000.out).2.1); (case side3 => exact xd ((Kd.R_reads' HO_240001.out).2.2)); (case side4 => rw [show t254.length = t235.length from (Kd.R_reads' HO_240001.out).1.symm]; exact (Kd.R_reads' HO_240001.out).2.1); rintro e w109 ⟨rfl, hb⟩; refine ⟨_, rfl, ?_⟩; replace HO_225000 := xq HO_225000 hb; replace HO_225001 := xq HO_225001 hb; replace HO_232000 := xq HO_232000 hb; replace HO_232001 := xq HO_232001 hb; replace HO_240000 := xq HO_240000 hb; replace HO_240001 := xq HO_240001 hb; replace BK209 := xk BK209 hb; replace BK224 := xk BK224 hb; replace BK231 := xk BK231 hb; replace BK239 := xk BK239 hb; replace HB := xp HB hb; (try clear hb); (try clear hb2); (try clear hk); (try clear hi); have hnb110 := NB209_224.out; have hnc110 := NB224_209.out; have hnb111 := NB209_231.out; have hnc111 := NB231_209.out; have hcz112_0 : w109.cell? ⟨gb209, 0, none⟩ = some (.slice A0_0 l0_0.length c0_0) := (blk_cell BK209.out 0).trans rfl; have hcz112_1 : w109.cell? ⟨gb209, 1, none⟩ = some (.slice A0_1 l0_1.length c0_1) := (blk_cell BK209.out 1).trans rfl; have hfz112_0 := blk_frozen BK209.out 0; have hfz112_1 := blk_frozen BK209.out 1) | ((with_reducible refine gate_callee (f := 12) rfl ?_); refine goesL_ (some 79) rfl rfl Try.func12 (by kernel_rfl) rfl #[.agg #[.slice A0_0 l0_0.length c0_0, .slice A0_1 l0_1.length c0_1]] rfl (by (try simp only [List.map_toArray, List.map_cons, List.map_nil]); first | done | rfl | (simp only [List.length_drop, List.length_take]; rfl)) ?_; (with_reducible refine (laws_toFlight.calls kj64 _ _ l0_0 _ _ l0_1 t256 t259 _ ?side1 ?side2 ?side3 ?side4 A100.out).mono ?_); (case side1 => exact xd ((Kd.C_below HR0_0.out HB.out))); (case side2 => exact HC0_0.out); (case side3 => exact xd ((Kd.C_below HR0_1.out HB.out))); (case side4 => exact HC0_1.out); rintro e w113 ⟨v257, v260, rfl, ho0, ho1, hb⟩; refine ⟨_, rfl, ?_⟩; have HO258 := Aside0.mk (Kd.R_lower (Kd.R_new' (Kd.R_new' (Kd.R_new' ho0 (Kd.R_lt (xr HO_225000.out))) (Kd.R_lt (xr HO_232000.out))) (Kd.R_lt (xr HO_240000.out))) (below_size (xs HB.out))); replace HO_225000 := Aside0.mk (Kd.R_elder' (xr HO_225000.out) (Kd.R_base ho0) hb); replace HO_232000 := Aside0.mk (Kd.R_elder' (xr HO_232000.out) (Kd.R_base ho0) hb); replace HO_240000 := Aside0.mk (Kd.R_elder' (xr HO_240000.out) (Kd.R_base ho0) hb); have HO261 := Aside0.mk (Kd.R_lower (Kd.R_new' (Kd.R_new' (Kd.R_new' ho1 (Kd.R_lt (xr HO_225001.out))) (Kd.R_lt (xr HO_232001.out))) (Kd.R_lt (xr HO_240001.out))) (below_size (xs HB.out))); replace HO_225001 := Aside0.mk (Kd.R_elder' (xr HO_225001.out) (Kd.R_base ho1) hb); replace HO_232001 := Aside0.mk (Kd.R_elder' (xr HO_232001.out) (Kd.R_base ho1) hb); replace HO_240001 := Aside0.mk (Kd.R_elder' (xr HO_240001.out) (Kd.R_base ho1) hb); replace BK209 := xk BK209 hb; replace BK224 := xk BK224 hb; replace BK231 := xk BK231 hb; replace BK239 := xk BK239 hb; replace HB := xp HB hb; (try clear hb); (try clear hb2); (try clear hk); (try clear hi); (try clear ho0); (try clear ho1); obtain ⟨Ao114, co114, eo114⟩ := Kd.R_slice HO258.out; subst eo114; obtain ⟨Ao115, co115, eo115⟩ := Kd.R_slice HO261.out; subst eo115) | ((with_reducible refine gate_callee (f := 24) rfl ?_); refine goesL_ (some 81) rfl rfl Try.func24 (by kernel_rfl) rfl #[.agg #[.slice Ao114 t256.length co114, .slice Ao115 t259.length co115], .int .i64 a1] rfl (by (try simp only [List.map_toArray, List.map_cons, List.map_nil]); first | done | rfl | (simp only [List.length_drop, List.length_take]; rfl)) ?_; (with_reducible refine (impl_FillLock.calls _ _ t256 _ _ t259 a1 t262 t265 t268 _ ?side1 ?side2 ?side3 ?side4 A101.out).mono ?_); (case side1 => exact xd ((Kd.R_reads' HO258.out).2.2)); (case side2 => exact (Kd.R_reads' HO258.out).2.1); (case side3 => exact xd ((Kd.R_reads' HO261.out).2.2)); (case side4 => exact (Kd.R_reads' HO261.out).2.1); rintro e w116 ⟨v263, v266, rfl, ho0, ho1, hb⟩; refine ⟨_, rfl, ?_⟩; have HO264 := Aside0.mk (Kd.R_lower (Kd.R_new' (Kd.R_new' (Kd.R_new' (Kd.R_new' ho0 (Kd.R_lt (xr HO_225000.out))) (Kd.R_lt (xr HO_232000.out))) (Kd.R_lt (xr HO_240000.out))) (Kd.R_lt (xr HO258.out))) (below_size (xs HB.out))); replace HO_225000 := Aside0.mk (Kd.R_elder' (xr HO_225000.out) (Kd.R_base ho0) hb); replace HO_232000 := Aside0.mk (Kd.R_elder' (xr HO_232000.out) (Kd.R_base ho0) hb); replace HO_240000 := Aside0.mk (Kd.R_elder' (xr HO_240000.out) (Kd.R_base ho0) hb); replace HO258 := Aside0.mk (Kd.R_elder' (xr HO258.out) (Kd.R_base ho0) hb); have HO267 := Aside0.mk (Kd.R_lower (Kd.R_new' (Kd.R_new' (Kd.R_new' (Kd.R_new' ho1 (Kd.R_lt (xr HO_225001.out))) (Kd.R_lt (xr HO_232001.out))) (Kd.R_lt (xr HO_240001.out))) (Kd.R_lt (xr HO261.out))) (below_size (xs HB.out))); replace HO_225001 := Aside0.mk (Kd.R_elder' (xr HO_225001.out) (Kd.R_base ho1) hb); replace HO_232001 := Aside0.mk (Kd.R_elder' (xr HO_232001.out) (Kd.R_base ho1) hb); replace HO_240001 := Aside0.mk (Kd.R_elder' (xr HO_240001.out) (Kd.R_base ho1) hb); replace HO261 := Aside0.mk (Kd.R_elder' (xr HO261.out) (Kd.R_base ho1) hb); replace BK209 := xk BK209 hb; replace BK224 := xk BK224 hb; replace BK231 := xk BK231 hb; replace BK239 := xk BK239 hb; replace HB := xp HB hb; (try clear hb); (try clear hb2); (try clear hk); (try clear hi); (try clear ho0); (try clear ho1)) | ((with_reducible refine gate_dst (N := 14) rfl ?_); refine box_event ?hg (N := 14) ?hd (cs := #[.slice none 0 0, .slice none 0 0]) (t := 29) ?hr ?_; (case hd => rfl); (case hg => rfl); (case hr => first | (go_simp; done) | (go_simp; rfl)); intro gb269 hg w117 hbox hb; replace HO_225000 := xq HO_225000 hb; replace HO_225001 := xq HO_225001 hb; replace HO_232000 := xq HO_232000 hb; replace HO_232001 := xq HO_232001 hb; replace HO_240000 := xq HO_240000 hb; replace HO_240001 := xq HO_240001 hb; replace HO258 := xq HO258 hb; replace HO261 := xq HO261 hb; replace HO264 := xq HO264 hb; replace HO267 := xq HO267 hb; have BK269 := Aside0.mk (hbox); have GW269 := xg HB hg; have GE269 := xg HB hg; replace HB := xp HB hb; have NB209_269 := xl BK209 hg; have NB269_209 := xh BK209 hg; replace BK209 := xk BK209 hb; have NB224_269 := xl BK224 hg; have NB269_224 := xh BK224 hg; replace BK224 := xk BK224 hb; have NB231_269 := xl BK231 hg; have NB269_231 := xh BK231 hg; replace BK231 := xk BK231 hb; have NB239_269 := xl BK239 hg; have NB269_239 := xh BK239 hg; replace BK239 := xk BK239 hb; clear hb hbox hg; obtain ⟨Ao118, co118, eo118⟩ := Kd.R_slice HO264.out; subst eo118; have hnb119 := NB269_209.out; have hnc119 := NB209_269.out; have hnb120 := NB269_224.out; have hnc120 := NB224_269.out; have hnb121 := NB269_231.out; have hnc121 := NB231_269.out; have hnb122 := NB269_239.out; have hnc122 := NB239_269.out; have hcz123_0 : w117.cell? ⟨gb269, 0, none⟩ = some (.slice none 0 0) := (blk_cell BK269.out 0).trans rfl; have hcz123_1 : w117.cell? ⟨gb269, 1, none⟩ = some (.slice none 0 0) := (blk_cell BK269.out 1).trans rfl; have hfz123_0 := blk_frozen BK269.out 0; have hfz123_1 := blk_frozen BK269.out 1; obtain ⟨Ao124, co124, eo124⟩ := Kd.R_slice HO267.out; subst eo124))
           (try simp only [Act.put, List.setIfInBounds_toArray, List.set_cons_zero, List.set_cons_succ])
           go_cut [92] (fun v92 wc => ∃ (kq : Nat) (x92_101 : Bool), v92 = .bool x92_101 ∧ Aside0 (laws_FnExactFillLock.j2 kq t252 x92_101 t253 t254 = some true) ∧ Aside0 (kq ≤ kj64) ∧ Aside0 (Kd.R (Kd.int .i64) 3 wc w.heap.size (fun k_ => nS k_ Ao29 t249.length co29 ∧ nS k_ Ao36 t232.length co36 ∧ nS k_ Ao118 t262.length co118) (.slice Ao22 t217.length co22) t217) ∧ Aside0 (Kd.R Kd.bool 4 wc w.heap.size (fun k_ => nS k_ Ao33 t250.length co33 ∧ nS k_ Ao41 t235.length co41 ∧ nS k_ Ao124 t265.length co124) (.slice Ao25 t220.length co25) t220) ∧ Aside0 (Kd.R (Kd.int .i64) 3 wc w.heap.size (fun k_ => nS k_ Ao22 t217.length co22 ∧ nS k_ Ao36 t232.length co36 ∧ nS k_ Ao118 t262.length co118) (.slice Ao29 t249.length co29) t249) ∧ Aside0 (Kd.R Kd.bool 4 wc w.heap.size (fun k_ => nS k_ Ao25 t220.length co25 ∧ nS k_ Ao41 t235.length co41 ∧ nS k_ Ao124 t265.length co124) (.slice Ao33 t250.length co33) t250) ∧ Aside0 (Kd.R (Kd.int .i64) 3 wc w.heap.size (fun k_ => nS k_ Ao22 t217.length co22 ∧ nS k_ Ao29 t249.length co29 ∧ nS k_ Ao118 t262.length co118) (.slice Ao36 t232.length co36) t253) ∧ Aside0 (Kd.R Kd.bool 4 wc w.heap.size (fun k_ => nS k_ Ao25 t220.length co25 ∧ nS k_ Ao33 t250.length co33 ∧ nS k_ Ao124 t265.length co124) (.slice Ao41 t235.length co41) t254) ∧ Aside0 (Kd.R (Kd.int .i64) 3 wc w.heap.size (fun k_ => nS k_ Ao22 t217.length co22 ∧ nS k_ Ao29 t249.length co29 ∧ nS k_ Ao36 t232.length co36) (.slice Ao118 t262.length co118) t262) ∧ Aside0 (Kd.R Kd.bool 4 wc w.heap.size (fun k_ => nS k_ Ao25 t220.length co25 ∧ nS k_ Ao33 t250.length co33 ∧ nS k_ Ao41 t235.length co41) (.slice Ao124 t265.length co124) t265) ∧ Aside0 (wc.heap[gb209]? = some (.cells #[(.slice A0_0 l0_0.length c0_0), (.slice A0_1 l0_1.length c0_1)] 25 (0, 0))) ∧ Aside0 (wc.heap[gb224]? = some (.cells #[(.slice Ao22 t217.length co22), (.slice Ao25 t220.length co25)] 29 (0, 0))) ∧ Aside0 (wc.heap[gb231]? = some (.cells #[(.slice Ao29 t249.length co29), (.slice Ao33 t250.length co33)] 29 (0, 0))) ∧ Aside0 (wc.heap[gb239]? = some (.cells #[(.slice Ao36 t232.length co36), (.slice Ao41 t235.length co41)] 29 (0, 0))) ∧ Aside0 (wc.heap[gb269]? = some (.cells #[(.slice Ao118 t262.length co118), (.slice Ao124 t265.length co124)] 29 (0, 0))) ∧ Aside0 (Below w.heap.size w wc))
           case first =>
            have H := HC102.out
            clear HC102
            replace H := Option.bind_eq_some_iff.mp H
            obtain ⟨t270, A1250, H⟩ := H
            replace H : (if t270 = true then (laws_FnExactFillLock.j2 kj64 t252 (t268 != t223) t253 t254) else (laws_FnExactFillLock.j2 kj64 t252 true t253 t254)) = some true := H
            have A125 := Aside0.mk A1250
            clear A1250
            by_cases c126 : t270 = true
            ·subst c126
             have H1 : (laws_FnExactFillLock.j2 kj64 t252 (t268 != t223) t253 t254) = some true := by first | (rw [if_pos rfl] at H; exact H) | rfl
             clear H
             have H := H1
             clear H1
             have H' := Aside0.mk H
             clear H
             have hnb127 := NB269_209.out
             have hnc127 := NB209_269.out
             have hnb128 := NB269_224.out
             have hnc128 := NB224_269.out
             have hnb129 := NB269_231.out
             have hnc129 := NB231_269.out
             have hnb130 := NB269_239.out
             have hnc130 := NB239_269.out
             have hcz131_0 : w117.cell? ⟨gb269, 0, none⟩ = some (.slice none 0 0) := (blk_cell BK269.out 0).trans rfl
             have hcz131_1 : w117.cell? ⟨gb269, 1, none⟩ = some (.slice none 0 0) := (blk_cell BK269.out 1).trans rfl
             have hfz131_0 := blk_frozen BK269.out 0
             have hfz131_1 := blk_frozen BK269.out 1
             have hnb132 := NB224_209.out
             have hnc132 := NB209_224.out
             have hnb133 := NB224_231.out
             have hnc133 := NB231_224.out
             have hnb134 := NB224_239.out
             have hnc134 := NB239_224.out
             have hcz135_0 : w117.cell? ⟨gb224, 0, none⟩ = some (.slice Ao22 t217.length co22) := (blk_cell BK224.out 0).trans rfl
             have hcz135_1 : w117.cell? ⟨gb224, 1, none⟩ = some (.slice Ao25 t220.length co25) := (blk_cell BK224.out 1).trans rfl
             have hfz135_0 := blk_frozen BK224.out 0
             have hfz135_1 := blk_frozen BK224.out 1
             go_wp2_with (first | ((with_reducible refine gate_callee (f := 14) rfl ?_); refine goesL_ (some 86) rfl rfl Try.func14 (by kernel_rfl) rfl #[.agg #[.slice Ao118 t262.length co118, .slice Ao124 t265.length co124], .agg #[.slice Ao22 t217.length co22, .slice Ao25 t220.length co25]] rfl (by (try simp only [List.map_toArray, List.map_cons, List.map_nil]); first | done | rfl | (simp only [List.length_drop, List.length_take]; rfl)) ?_; (with_reducible refine (laws_eqFlight.calls kj64 _ _ t262 _ _ t265 _ _ t217 _ _ t220 true _ ?side1 ?side2 ?side3 ?side4 ?side5 ?side6 ?side7 ?side8 A125.out).mono ?_); (case side1 => refine (Kd.R_reads' (e := 3) (base := w.heap.size) (ok := fun k_ => ((((True ∧ nS k_ Ao22 t217.length co22) ∧ nS k_ Ao29 t249.length co29) ∧ nS k_ Ao36 t232.length co36) ∧ nS k_ Ao114 t256.length co114)) (n := t262.length) (c := co118) ?_).2.2; exact (by (with_reducible repeat (first | apply Kd.R_alloc | apply Kd.R_drewN | apply Kd.R_drew)); exact (Kd.R_mono (Kd.R_far (p := ⟨gb269, 1, none⟩) (Kd.R_far (p := ⟨gb269, 0, none⟩) (Kd.R_types HO264.out BK269.out (by decide)) (fun _ hk => hk.2) (.slice Ao118 t262.length co118)) (fun _ hk => hk.2) (.slice Ao124 t265.length co124)) (fun _ h_ => h_.1)))); (case side2 => exact (Kd.R_reads' HO264.out).2.1); (case side3 => refine (Kd.R_reads' (e := 4) (base := w.heap.size) (ok := fun k_ => ((((True ∧ nS k_ Ao25 t220.length co25) ∧ nS k_ Ao33 t250.length co33) ∧ nS k_ Ao41 t235.length co41) ∧ nS k_ Ao115 t259.length co115)) (n := t265.length) (c := co124) ?_).2.2; exact (by (with_reducible repeat (first | apply Kd.R_alloc | apply Kd.R_drewN | apply Kd.R_drew)); exact (Kd.R_mono (Kd.R_far (p := ⟨gb269, 1, none⟩) (Kd.R_far (p := ⟨gb269, 0, none⟩) (Kd.R_types HO267.out BK269.out (by decide)) (fun _ hk => hk.2) (.slice Ao118 t262.length co118)) (fun _ hk => hk.2) (.slice Ao124 t265.length co124)) (fun _ h_ => h_.1)))); (case side4 => exact (Kd.R_reads' HO267.out).2.1); (case side5 => refine (Kd.R_reads' (e := 3) (base := w.heap.size) (ok := fun k_ => (((nS k_ Ao29 t249.length co29 ∧ nS k_ Ao36 t232.length co36) ∧ nS k_ Ao114 t256.length co114) ∧ nS k_ Ao118 t262.length co118)) (n := t217.length) (c := co22) ?_).2.2; exact (by (with_reducible repeat (first | apply Kd.R_alloc | apply Kd.R_drewN | apply Kd.R_drew)); exact (Kd.R_mono (Kd.R_far (p := ⟨gb269, 1, none⟩) (Kd.R_far (p := ⟨gb269, 0, none⟩) (Kd.R_types HO_225000.out BK269.out (by decide)) (fun _ hk => hk.2) (.slice Ao118 t262.length co118)) (fun _ hk => hk.2) (.slice Ao124 t265.length co124)) (fun _ h_ => h_.1)))); (case side6 => exact (Kd.R_reads' HO_225000.out).2.1); (case side7 => refine (Kd.R_reads' (e := 4) (base := w.heap.size) (ok := fun k_ => (((nS k_ Ao33 t250.length co33 ∧ nS k_ Ao41 t235.length co41) ∧ nS k_ Ao115 t259.length co115) ∧ nS k_ Ao124 t265.length co124)) (n := t220.length) (c := co25) ?_).2.2; exact (by (with_reducible repeat (first | apply Kd.R_alloc | apply Kd.R_drewN | apply Kd.R_drew)); exact (Kd.R_mono (Kd.R_far (p := ⟨gb269, 1, none⟩) (Kd.R_far (p := ⟨gb269, 0, none⟩) (Kd.R_types HO_225001.out BK269.out (by decide)) (fun _ hk => hk.2) (.slice Ao118 t262.length co118)) (fun _ hk => hk.2) (.slice Ao124 t265.length co124)) (fun _ h_ => h_.1)))); (case side8 => exact (Kd.R_reads' HO_225001.out).2.1); rintro e w136 ⟨rfl, hb⟩; refine ⟨_, rfl, ?_⟩; replace HO_225000 := Aside0.mk (Kd.R_below (by (with_reducible repeat (first | apply Kd.R_alloc | apply Kd.R_drewN | apply Kd.R_drew)); exact (Kd.R_mono (Kd.R_far (p := ⟨gb269, 1, none⟩) (Kd.R_far (p := ⟨gb269, 0, none⟩) (Kd.R_types HO_225000.out BK269.out (by decide)) (fun _ hk => hk.2) (.slice Ao118 t262.length co118)) (fun _ hk => hk.2) (.slice Ao124 t265.length co124)) (fun _ h_ => h_.1))) hb); replace HO_225001 := Aside0.mk (Kd.R_below (by (with_reducible repeat (first | apply Kd.R_alloc | apply Kd.R_drewN | apply Kd.R_drew)); exact (Kd.R_mono (Kd.R_far (p := ⟨gb269, 1, none⟩) (Kd.R_far (p := ⟨gb269, 0, none⟩) (Kd.R_types HO_225001.out BK269.out (by decide)) (fun _ hk => hk.2) (.slice Ao118 t262.length co118)) (fun _ hk => hk.2) (.slice Ao124 t265.length co124)) (fun _ h_ => h_.1))) hb); replace HO_232000 := Aside0.mk (Kd.R_below (by (with_reducible repeat (first | apply Kd.R_alloc | apply Kd.R_drewN | apply Kd.R_drew)); exact (Kd.R_mono (Kd.R_far (p := ⟨gb269, 1, none⟩) (Kd.R_far (p := ⟨gb269, 0, none⟩) (Kd.R_types HO_232000.out BK269.out (by decide)) (fun _ hk => hk.2) (.slice Ao118 t262.length co118)) (fun _ hk => hk.2) (.slice Ao124 t265.length co124)) (fun _ h_ => h_.1))) hb); replace HO_232001 := Aside0.mk (Kd.R_below (by (with_reducible repeat (first | apply Kd.R_alloc | apply Kd.R_drewN | apply Kd.R_drew)); exact (Kd.R_mono (Kd.R_far (p := ⟨gb269, 1, none⟩) (Kd.R_far (p := ⟨gb269, 0, none⟩) (Kd.R_types HO_232001.out BK269.out (by decide)) (fun _ hk => hk.2) (.slice Ao118 t262.length co118)) (fun _ hk => hk.2) (.slice Ao124 t265.length co124)) (fun _ h_ => h_.1))) hb); replace HO_240000 := Aside0.mk (Kd.R_below (by (with_reducible repeat (first | apply Kd.R_alloc | apply Kd.R_drewN | apply Kd.R_drew)); exact (Kd.R_mono (Kd.R_far (p := ⟨gb269, 1, none⟩) (Kd.R_far (p := ⟨gb269, 0, none⟩) (Kd.R_types HO_240000.out BK269.out (by decide)) (fun _ hk => hk.2) (.slice Ao118 t262.length co118)) (fun _ hk => hk.2) (.slice Ao124 t265.length co124)) (fun _ h_ => h_.1))) hb); replace HO_240001 := Aside0.mk (Kd.R_below (by (with_reducible repeat (first | apply Kd.R_alloc | apply Kd.R_drewN | apply Kd.R_drew)); exact (Kd.R_mono (Kd.R_far (p := ⟨gb269, 1, none⟩) (Kd.R_far (p := ⟨gb269, 0, none⟩) (Kd.R_types HO_240001.out BK269.out (by decide)) (fun _ hk => hk.2) (.slice Ao118 t262.length co118)) (fun _ hk => hk.2) (.slice Ao124 t265.length co124)) (fun _ h_ => h_.1))) hb); replace HO258 := Aside0.mk (Kd.R_below (by (with_reducible repeat (first | apply Kd.R_alloc | apply Kd.R_drewN | apply Kd.R_drew)); exact (Kd.R_mono (Kd.R_far (p := ⟨gb269, 1, none⟩) (Kd.R_far (p := ⟨gb269, 0, none⟩) (Kd.R_types HO258.out BK269.out (by decide)) (fun _ hk => hk.2) (.slice Ao118 t262.length co118)) (fun _ hk => hk.2) (.slice Ao124 t265.length co124)) (fun _ h_ => h_.1))) hb); replace HO261 := Aside0.mk (Kd.R_below (by (with_reducible repeat (first | apply Kd.R_alloc | apply Kd.R_drewN | apply Kd.R_drew)); exact (Kd.R_mono (Kd.R_far (p := ⟨gb269, 1, none⟩) (Kd.R_far (p := ⟨gb269, 0, none⟩) (Kd.R_types HO261.out BK269.out (by decide)) (fun _ hk => hk.2) (.slice Ao118 t262.length co118)) (fun _ hk => hk.2) (.slice Ao124 t265.length co124)) (fun _ h_ => h_.1))) hb); replace HO264 := Aside0.mk (Kd.R_below (by (with_reducible repeat (first | apply Kd.R_alloc | apply Kd.R_drewN | apply Kd.R_drew)); exact (Kd.R_mono (Kd.R_far (p := ⟨gb269, 1, none⟩) (Kd.R_far (p := ⟨gb269, 0, none⟩) (Kd.R_types HO264.out BK269.out (by decide)) (fun _ hk => hk.2) (.slice Ao118 t262.length co118)) (fun _ hk => hk.2) (.slice Ao124 t265.length co124)) (fun _ h_ => h_.1))) hb); replace HO267 := Aside0.mk (Kd.R_below (by (with_reducible repeat (first | apply Kd.R_alloc | apply Kd.R_drewN | apply Kd.R_drew)); exact (Kd.R_mono (Kd.R_far (p := ⟨gb269, 1, none⟩) (Kd.R_far (p := ⟨gb269, 0, none⟩) (Kd.R_types HO267.out BK269.out (by decide)) (fun _ hk => hk.2) (.slice Ao118 t262.length co118)) (fun _ hk => hk.2) (.slice Ao124 t265.length co124)) (fun _ h_ => h_.1))) hb); replace BK209 := Aside0.mk (blk_below (g := gb209) (o := .cells #[.slice A0_0 l0_0.length c0_0, .slice A0_1 l0_1.length c0_1] 25 (0, 0)) (xff NB209_269.out NB209_269.out BK209.out) hb); replace BK224 := Aside0.mk (blk_below (g := gb224) (o := .cells #[.slice Ao22 t217.length co22, .slice Ao25 t220.length co25] 29 (0, 0)) (xff NB224_269.out NB224_269.out BK224.out) hb); replace BK231 := Aside0.mk (blk_below (g := gb231) (o := .cells #[.slice Ao29 t249.length co29, .slice Ao33 t250.length co33] 29 (0, 0)) (xff NB231_269.out NB231_269.out BK231.out) hb); replace BK239 := Aside0.mk (blk_below (g := gb239) (o := .cells #[.slice Ao36 t232.length co36, .slice Ao41 t235.length co41] 29 (0, 0)) (xff NB239_269.out NB239_269.out BK239.out) hb); replace BK269 := Aside0.mk (blk_below (g := gb269) (o := .cells #[.slice Ao118 t262.length co118, .slice Ao124 t265.length co124] 29 (0, 0)) (by (with_reducible repeat (first | refine blk_drewN ?_ _ | refine blk_drew ?_ | refine blk_alloc ?_ _)); refine blk_put (cs := #[.slice Ao118 t262.length co118, .slice none 0 0]) ?_ 1 _ rfl; (with_reducible repeat (first | refine blk_drewN ?_ _ | refine blk_drew ?_ | refine blk_alloc ?_ _)); refine blk_put (cs := #[.slice none 0 0, .slice none 0 0]) ?_ 0 _ rfl; (with_reducible repeat (first | refine blk_drewN ?_ _ | refine blk_drew ?_ | refine blk_alloc ?_ _)); exact BK269.out) hb); replace HB := xp HB hb; (try clear hb); (try clear hb2); (try clear hk); (try clear hi)))
             go_meet
             case rel => exact ⟨_, ((t268 != t223)), (by first | rfl | (simp; done) | (simp [*]; done)), H', ⟨by have := HJ11.out; have := HJ64.out; first | omega | exact Nat.le_refl _⟩, ⟨by (try simp only [hl232000_64]); (try simp only [hl232001_64]); (with_reducible repeat (first | apply Kd.R_alloc | apply Kd.R_drewN | apply Kd.R_drew)); exact Kd.R_mono HO_225000.out (fun _ hk => ⟨hk.1.1.1, ⟨hk.1.1.2, hk.2⟩⟩)⟩, ⟨by (try simp only [hl232000_64]); (try simp only [hl232001_64]); (with_reducible repeat (first | apply Kd.R_alloc | apply Kd.R_drewN | apply Kd.R_drew)); exact Kd.R_mono HO_225001.out (fun _ hk => ⟨hk.1.1.1, ⟨hk.1.1.2, hk.2⟩⟩)⟩, ⟨by (try simp only [hl232000_64]); (try simp only [hl232001_64]); (with_reducible repeat (first | apply Kd.R_alloc | apply Kd.R_drewN | apply Kd.R_drew)); exact Kd.R_mono HO_232000.out (fun _ hk => ⟨hk.1.1.1, ⟨hk.1.1.2, hk.2⟩⟩)⟩, ⟨by (try simp only [hl232000_64]); (try simp only [hl232001_64]); (with_reducible repeat (first | apply Kd.R_alloc | apply Kd.R_drewN | apply Kd.R_drew)); exact Kd.R_mono HO_232001.out (fun _ hk => ⟨hk.1.1.1, ⟨hk.1.1.2, hk.2⟩⟩)⟩, ⟨by (try simp only [hl232000_64]); (try simp only [hl232001_64]); (with_reducible repeat (first | apply Kd.R_alloc | apply Kd.R_drewN | apply Kd.R_drew)); exact Kd.R_mono HO_240000.out (fun _ hk => ⟨hk.1.1.1, ⟨hk.1.1.2, hk.2⟩⟩)⟩, ⟨by (try simp only [hl232000_64]); (try simp only [hl232001_64]); (with_reducible repeat (first | apply Kd.R_alloc | apply Kd.R_drewN | apply Kd.R_drew)); exact Kd.R_mono HO_240001.out (fun _ hk => ⟨hk.1.1.1, ⟨hk.1.1.2, hk.2⟩⟩)⟩, ⟨by (try simp only [hl232000_64]); (try simp only [hl232001_64]); (with_reducible repeat (first | apply Kd.R_alloc | apply Kd.R_drewN | apply Kd.R_drew)); exact Kd.R_mono HO264.out (fun _ hk => ⟨hk.1.1.1.2, ⟨hk.1.1.2, hk.1.2⟩⟩)⟩, ⟨by (try simp only [hl232000_64]); (try simp only [hl232001_64]); (with_reducible repeat (first | apply Kd.R_alloc | apply Kd.R_drewN | apply Kd.R_drew)); exact Kd.R_mono HO267.out (fun _ hk => ⟨hk.1.1.1.2, ⟨hk.1.1.2, hk.1.2⟩⟩)⟩, ⟨by (try simp only [hl232000_64]); (try simp only [hl232001_64]); (with_reducible repeat (first | refine blk_drewN ?_ _ | refine blk_drew ?_ | refine blk_alloc ?_ _)); exact BK209.out⟩, ⟨by (try simp only [hl232000_64]); (try simp only [hl232001_64]); (with_reducible repeat (first | refine blk_drewN ?_ _ | refine blk_drew ?_ | refine blk_alloc ?_ _)); exact BK224.out⟩, ⟨by (try simp only [hl232000_64]); (try simp only [hl232001_64]); (with_reducible repeat (first | refine blk_drewN ?_ _ | refine blk_drew ?_ | refine blk_alloc ?_ _)); exact BK231.out⟩, ⟨by (try simp only [hl232000_64]); (try simp only [hl232001_64]); (with_reducible repeat (first | refine blk_drewN ?_ _ | refine blk_drew ?_ | refine blk_alloc ?_ _)); exact BK239.out⟩, ⟨by (try simp only [hl232000_64]); (try simp only [hl232001_64]); (with_reducible repeat (first | refine blk_drewN ?_ _ | refine blk_drew ?_ | refine blk_alloc ?_ _)); exact BK269.out⟩, ⟨xs HB.out⟩⟩
            ·replace c126 := Bool.eq_false_iff.mpr c126
             subst c126
             have H1 : (laws_FnExactFillLock.j2 kj64 t252 true t253 t254) = some true := by first | (rw [if_neg (show ¬ (false = true) by decide)] at H; exact H) | rfl
             clear H
             have H := H1
             clear H1
             have H' := Aside0.mk H
             clear H
             have hnb137 := NB269_209.out
             have hnc137 := NB209_269.out
             have hnb138 := NB269_224.out
             have hnc138 := NB224_269.out
             have hnb139 := NB269_231.out
             have hnc139 := NB231_269.out
             have hnb140 := NB269_239.out
             have hnc140 := NB239_269.out
             have hcz141_0 : w117.cell? ⟨gb269, 0, none⟩ = some (.slice none 0 0) := (blk_cell BK269.out 0).trans rfl
             have hcz141_1 : w117.cell? ⟨gb269, 1, none⟩ = some (.slice none 0 0) := (blk_cell BK269.out 1).trans rfl
             have hfz141_0 := blk_frozen BK269.out 0
             have hfz141_1 := blk_frozen BK269.out 1
             have hnb142 := NB224_209.out
             have hnc142 := NB209_224.out
             have hnb143 := NB224_231.out
             have hnc143 := NB231_224.out
             have hnb144 := NB224_239.out
             have hnc144 := NB239_224.out
             have hcz145_0 : w117.cell? ⟨gb224, 0, none⟩ = some (.slice Ao22 t217.length co22) := (blk_cell BK224.out 0).trans rfl
             have hcz145_1 : w117.cell? ⟨gb224, 1, none⟩ = some (.slice Ao25 t220.length co25) := (blk_cell BK224.out 1).trans rfl
             have hfz145_0 := blk_frozen BK224.out 0
             have hfz145_1 := blk_frozen BK224.out 1
             go_wp2_with (first | ((with_reducible refine gate_callee (f := 14) rfl ?_); refine goesL_ (some 86) rfl rfl Try.func14 (by kernel_rfl) rfl #[.agg #[.slice Ao118 t262.length co118, .slice Ao124 t265.length co124], .agg #[.slice Ao22 t217.length co22, .slice Ao25 t220.length co25]] rfl (by (try simp only [List.map_toArray, List.map_cons, List.map_nil]); first | done | rfl | (simp only [List.length_drop, List.length_take]; rfl)) ?_; (with_reducible refine (laws_eqFlight.calls kj64 _ _ t262 _ _ t265 _ _ t217 _ _ t220 false _ ?side1 ?side2 ?side3 ?side4 ?side5 ?side6 ?side7 ?side8 A125.out).mono ?_); (case side1 => refine (Kd.R_reads' (e := 3) (base := w.heap.size) (ok := fun k_ => ((((True ∧ nS k_ Ao22 t217.length co22) ∧ nS k_ Ao29 t249.length co29) ∧ nS k_ Ao36 t232.length co36) ∧ nS k_ Ao114 t256.length co114)) (n := t262.length) (c := co118) ?_).2.2; exact (by (with_reducible repeat (first | apply Kd.R_alloc | apply Kd.R_drewN | apply Kd.R_drew)); exact (Kd.R_mono (Kd.R_far (p := ⟨gb269, 1, none⟩) (Kd.R_far (p := ⟨gb269, 0, none⟩) (Kd.R_types HO264.out BK269.out (by decide)) (fun _ hk => hk.2) (.slice Ao118 t262.length co118)) (fun _ hk => hk.2) (.slice Ao124 t265.length co124)) (fun _ h_ => h_.1)))); (case side2 => exact (Kd.R_reads' HO264.out).2.1); (case side3 => refine (Kd.R_reads' (e := 4) (base := w.heap.size) (ok := fun k_ => ((((True ∧ nS k_ Ao25 t220.length co25) ∧ nS k_ Ao33 t250.length co33) ∧ nS k_ Ao41 t235.length co41) ∧ nS k_ Ao115 t259.length co115)) (n := t265.length) (c := co124) ?_).2.2; exact (by (with_reducible repeat (first | apply Kd.R_alloc | apply Kd.R_drewN | apply Kd.R_drew)); exact (Kd.R_mono (Kd.R_far (p := ⟨gb269, 1, none⟩) (Kd.R_far (p := ⟨gb269, 0, none⟩) (Kd.R_types HO267.out BK269.out (by decide)) (fun _ hk => hk.2) (.slice Ao118 t262.length co118)) (fun _ hk => hk.2) (.slice Ao124 t265.length co124)) (fun _ h_ => h_.1)))); (case side4 => exact (Kd.R_reads' HO267.out).2.1); (case side5 => refine (Kd.R_reads' (e := 3) (base := w.heap.size) (ok := fun k_ => (((nS k_ Ao29 t249.length co29 ∧ nS k_ Ao36 t232.length co36) ∧ nS k_ Ao114 t256.length co114) ∧ nS k_ Ao118 t262.length co118)) (n := t217.length) (c := co22) ?_).2.2; exact (by (with_reducible repeat (first | apply Kd.R_alloc | apply Kd.R_drewN | apply Kd.R_drew)); exact (Kd.R_mono (Kd.R_far (p := ⟨gb269, 1, none⟩) (Kd.R_far (p := ⟨gb269, 0, none⟩) (Kd.R_types HO_225000.out BK269.out (by decide)) (fun _ hk => hk.2) (.slice Ao118 t262.length co118)) (fun _ hk => hk.2) (.slice Ao124 t265.length co124)) (fun _ h_ => h_.1)))); (case side6 => exact (Kd.R_reads' HO_225000.out).2.1); (case side7 => refine (Kd.R_reads' (e := 4) (base := w.heap.size) (ok := fun k_ => (((nS k_ Ao33 t250.length co33 ∧ nS k_ Ao41 t235.length co41) ∧ nS k_ Ao115 t259.length co115) ∧ nS k_ Ao124 t265.length co124)) (n := t220.length) (c := co25) ?_).2.2; exact (by (with_reducible repeat (first | apply Kd.R_alloc | apply Kd.R_drewN | apply Kd.R_drew)); exact (Kd.R_mono (Kd.R_far (p := ⟨gb269, 1, none⟩) (Kd.R_far (p := ⟨gb269, 0, none⟩) (Kd.R_types HO_225001.out BK269.out (by decide)) (fun _ hk => hk.2) (.slice Ao118 t262.length co118)) (fun _ hk => hk.2) (.slice Ao124 t265.length co124)) (fun _ h_ => h_.1)))); (case side8 => exact (Kd.R_reads' HO_225001.out).2.1); rintro e w146 ⟨rfl, hb⟩; refine ⟨_, rfl, ?_⟩; replace HO_225000 := Aside0.mk (Kd.R_below (by (with_reducible repeat (first | apply Kd.R_alloc | apply Kd.R_drewN | apply Kd.R_drew)); exact (Kd.R_mono (Kd.R_far (p := ⟨gb269, 1, none⟩) (Kd.R_far (p := ⟨gb269, 0, none⟩) (Kd.R_types HO_225000.out BK269.out (by decide)) (fun _ hk => hk.2) (.slice Ao118 t262.length co118)) (fun _ hk => hk.2) (.slice Ao124 t265.length co124)) (fun _ h_ => h_.1))) hb); replace HO_225001 := Aside0.mk (Kd.R_below (by (with_reducible repeat (first | apply Kd.R_alloc | apply Kd.R_drewN | apply Kd.R_drew)); exact (Kd.R_mono (Kd.R_far (p := ⟨gb269, 1, none⟩) (Kd.R_far (p := ⟨gb269, 0, none⟩) (Kd.R_types HO_225001.out BK269.out (by decide)) (fun _ hk => hk.2) (.slice Ao118 t262.length co118)) (fun _ hk => hk.2) (.slice Ao124 t265.length co124)) (fun _ h_ => h_.1))) hb); replace HO_232000 := Aside0.mk (Kd.R_below (by (with_reducible repeat (first | apply Kd.R_alloc | apply Kd.R_drewN | apply Kd.R_drew)); exact (Kd.R_mono (Kd.R_far (p := ⟨gb269, 1, none⟩) (Kd.R_far (p := ⟨gb269, 0, none⟩) (Kd.R_types HO_232000.out BK269.out (by decide)) (fun _ hk => hk.2) (.slice Ao118 t262.length co118)) (fun _ hk => hk.2) (.slice Ao124 t265.length co124)) (fun _ h_ => h_.1))) hb); replace HO_232001 := Aside0.mk (Kd.R_below (by (with_reducible repeat (first | apply Kd.R_alloc | apply Kd.R_drewN | apply Kd.R_drew)); exact (Kd.R_mono (Kd.R_far (p := ⟨gb269, 1, none⟩) (Kd.R_far (p := ⟨gb269, 0, none⟩) (Kd.R_types HO_232001.out BK269.out (by decide)) (fun _ hk => hk.2) (.slice Ao118 t262.length co118)) (fun _ hk => hk.2) (.slice Ao124 t265.length co124)) (fun _ h_ => h_.1))) hb); replace HO_240000 := Aside0.mk (Kd.R_below (by (with_reducible repeat (first | apply Kd.R_alloc | apply Kd.R_drewN | apply Kd.R_drew)); exact (Kd.R_mono (Kd.R_far (p := ⟨gb269, 1, none⟩) (Kd.R_far (p := ⟨gb269, 0, none⟩) (Kd.R_types HO_240000.out BK269.out (by decide)) (fun _ hk => hk.2) (.slice Ao118 t262.length co118)) (fun _ hk => hk.2) (.slice Ao124 t265.length co124)) (fun _ h_ => h_.1))) hb); replace HO_240001 := Aside0.mk (Kd.R_below (by (with_reducible repeat (first | apply Kd.R_alloc | apply Kd.R_drewN | apply Kd.R_drew)); exact (Kd.R_mono (Kd.R_far (p := ⟨gb269, 1, none⟩) (Kd.R_far (p := ⟨gb269, 0, none⟩) (Kd.R_types HO_240001.out BK269.out (by decide)) (fun _ hk => hk.2) (.slice Ao118 t262.length co118)) (fun _ hk => hk.2) (.slice Ao124 t265.length co124)) (fun _ h_ => h_.1))) hb); replace HO258 := Aside0.mk (Kd.R_below (by (with_reducible repeat (first | apply Kd.R_alloc | apply Kd.R_drewN | apply Kd.R_drew)); exact (Kd.R_mono (Kd.R_far (p := ⟨gb269, 1, none⟩) (Kd.R_far (p := ⟨gb269, 0, none⟩) (Kd.R_types HO258.out BK269.out (by decide)) (fun _ hk => hk.2) (.slice Ao118 t262.length co118)) (fun _ hk => hk.2) (.slice Ao124 t265.length co124)) (fun _ h_ => h_.1))) hb); replace HO261 := Aside0.mk (Kd.R_below (by (with_reducible repeat (first | apply Kd.R_alloc | apply Kd.R_drewN | apply Kd.R_drew)); exact (Kd.R_mono (Kd.R_far (p := ⟨gb269, 1, none⟩) (Kd.R_far (p := ⟨gb269, 0, none⟩) (Kd.R_types HO261.out BK269.out (by decide)) (fun _ hk => hk.2) (.slice Ao118 t262.length co118)) (fun _ hk => hk.2) (.slice Ao124 t265.length co124)) (fun _ h_ => h_.1))) hb); replace HO264 := Aside0.mk (Kd.R_below (by (with_reducible repeat (first | apply Kd.R_alloc | apply Kd.R_drewN | apply Kd.R_drew)); exact (Kd.R_mono (Kd.R_far (p := ⟨gb269, 1, none⟩) (Kd.R_far (p := ⟨gb269, 0, none⟩) (Kd.R_types HO264.out BK269.out (by decide)) (fun _ hk => hk.2) (.slice Ao118 t262.length co118)) (fun _ hk => hk.2) (.slice Ao124 t265.length co124)) (fun _ h_ => h_.1))) hb); replace HO267 := Aside0.mk (Kd.R_below (by (with_reducible repeat (first | apply Kd.R_alloc | apply Kd.R_drewN | apply Kd.R_drew)); exact (Kd.R_mono (Kd.R_far (p := ⟨gb269, 1, none⟩) (Kd.R_far (p := ⟨gb269, 0, none⟩) (Kd.R_types HO267.out BK269.out (by decide)) (fun _ hk => hk.2) (.slice Ao118 t262.length co118)) (fun _ hk => hk.2) (.slice Ao124 t265.length co124)) (fun _ h_ => h_.1))) hb); replace BK209 := Aside0.mk (blk_below (g := gb209) (o := .cells #[.slice A0_0 l0_0.length c0_0, .slice A0_1 l0_1.length c0_1] 25 (0, 0)) (xff NB209_269.out NB209_269.out BK209.out) hb); replace BK224 := Aside0.mk (blk_below (g := gb224) (o := .cells #[.slice Ao22 t217.length co22, .slice Ao25 t220.length co25] 29 (0, 0)) (xff NB224_269.out NB224_269.out BK224.out) hb); replace BK231 := Aside0.mk (blk_below (g := gb231) (o := .cells #[.slice Ao29 t249.length co29, .slice Ao33 t250.length co33] 29 (0, 0)) (xff NB231_269.out NB231_269.out BK231.out) hb); replace BK239 := Aside0.mk (blk_below (g := gb239) (o := .cells #[.slice Ao36 t232.length co36, .slice Ao41 t235.length co41] 29 (0, 0)) (xff NB239_269.out NB239_269.out BK239.out) hb); replace BK269 := Aside0.mk (blk_below (g := gb269) (o := .cells #[.slice Ao118 t262.length co118, .slice Ao124 t265.length co124] 29 (0, 0)) (by (with_reducible repeat (first | refine blk_drewN ?_ _ | refine blk_drew ?_ | refine blk_alloc ?_ _)); refine blk_put (cs := #[.slice Ao118 t262.length co118, .slice none 0 0]) ?_ 1 _ rfl; (with_reducible repeat (first | refine blk_drewN ?_ _ | refine blk_drew ?_ | refine blk_alloc ?_ _)); refine blk_put (cs := #[.slice none 0 0, .slice none 0 0]) ?_ 0 _ rfl; (with_reducible repeat (first | refine blk_drewN ?_ _ | refine blk_drew ?_ | refine blk_alloc ?_ _)); exact BK269.out) hb); replace HB := xp HB hb; (try clear hb); (try clear hb2); (try clear hk); (try clear hi)))
             go_meet
             case rel => exact ⟨_, (true), (by first | rfl | (simp; done) | (simp [*]; done)), H', ⟨by have := HJ11.out; have := HJ64.out; first | omega | exact Nat.le_refl _⟩, ⟨by (try simp only [hl232000_64]); (try simp only [hl232001_64]); (with_reducible repeat (first | apply Kd.R_alloc | apply Kd.R_drewN | apply Kd.R_drew)); exact Kd.R_mono HO_225000.out (fun _ hk => ⟨hk.1.1.1, ⟨hk.1.1.2, hk.2⟩⟩)⟩, ⟨by (try simp only [hl232000_64]); (try simp only [hl232001_64]); (with_reducible repeat (first | apply Kd.R_alloc | apply Kd.R_drewN | apply Kd.R_drew)); exact Kd.R_mono HO_225001.out (fun _ hk => ⟨hk.1.1.1, ⟨hk.1.1.2, hk.2⟩⟩)⟩, ⟨by (try simp only [hl232000_64]); (try simp only [hl232001_64]); (with_reducible repeat (first | apply Kd.R_alloc | apply Kd.R_drewN | apply Kd.R_drew)); exact Kd.R_mono HO_232000.out (fun _ hk => ⟨hk.1.1.1, ⟨hk.1.1.2, hk.2⟩⟩)⟩, ⟨by (try simp only [hl232000_64]); (try simp only [hl232001_64]); (with_reducible repeat (first | apply Kd.R_alloc | apply Kd.R_drewN | apply Kd.R_drew)); exact Kd.R_mono HO_232001.out (fun _ hk => ⟨hk.1.1.1, ⟨hk.1.1.2, hk.2⟩⟩)⟩, ⟨by (try simp only [hl232000_64]); (try simp only [hl232001_64]); (with_reducible repeat (first | apply Kd.R_alloc | apply Kd.R_drewN | apply Kd.R_drew)); exact Kd.R_mono HO_240000.out (fun _ hk => ⟨hk.1.1.1, ⟨hk.1.1.2, hk.2⟩⟩)⟩, ⟨by (try simp only [hl232000_64]); (try simp only [hl232001_64]); (with_reducible repeat (first | apply Kd.R_alloc | apply Kd.R_drewN | apply Kd.R_drew)); exact Kd.R_mono HO_240001.out (fun _ hk => ⟨hk.1.1.1, ⟨hk.1.1.2, hk.2⟩⟩)⟩, ⟨by (try simp only [hl232000_64]); (try simp only [hl232001_64]); (with_reducible repeat (first | apply Kd.R_alloc | apply Kd.R_drewN | apply Kd.R_drew)); exact Kd.R_mono HO264.out (fun _ hk => ⟨hk.1.1.1.2, ⟨hk.1.1.2, hk.1.2⟩⟩)⟩, ⟨by (try simp only [hl232000_64]); (try simp only [hl232001_64]); (with_reducible repeat (first | apply Kd.R_alloc | apply Kd.R_drewN | apply Kd.R_drew)); exact Kd.R_mono HO267.out (fun _ hk => ⟨hk.1.1.1.2, ⟨hk.1.1.2, hk.1.2⟩⟩)⟩, ⟨by (try simp only [hl232000_64]); (try simp only [hl232001_64]); (with_reducible repeat (first | refine blk_drewN ?_ _ | refine blk_drew ?_ | refine blk_alloc ?_ _)); exact BK209.out⟩, ⟨by (try simp only [hl232000_64]); (try simp only [hl232001_64]); (with_reducible repeat (first | refine blk_drewN ?_ _ | refine blk_drew ?_ | refine blk_alloc ?_ _)); exact BK224.out⟩, ⟨by (try simp only [hl232000_64]); (try simp only [hl232001_64]); (with_reducible repeat (first | refine blk_drewN ?_ _ | refine blk_drew ?_ | refine blk_alloc ?_ _)); exact BK231.out⟩, ⟨by (try simp only [hl232000_64]); (try simp only [hl232001_64]); (with_reducible repeat (first | refine blk_drewN ?_ _ | refine blk_drew ?_ | refine blk_alloc ?_ _)); exact BK239.out⟩, ⟨by (try simp only [hl232000_64]); (try simp only [hl232001_64]); (with_reducible repeat (first | refine blk_drewN ?_ _ | refine blk_drew ?_ | refine blk_alloc ?_ _)); exact BK269.out⟩, ⟨xs HB.out⟩⟩
           case rest =>
            clear HC102
            try clear c1
            try clear c2
            try clear p2
            try clear c3
            try clear c4
            try clear c4b0
            try clear c5
            try clear c6
            try clear c7
            try clear c8
            try clear c9
            try clear c10
            try clear c11
            try clear c12
            try clear c13
            try clear c14
            try clear c19
            try clear c20
            try clear c23
            try clear c24
            try clear c30
            try clear c31
            try clear c37
            try clear c38
            try clear c39
            try clear c43
            try clear c44
            try clear c45
            try clear c46
            try clear c48
            try clear c49
            try clear c52
            try clear c53
            try clear c54
            try clear c56
            try clear c57
            try clear c60
            try clear c63
            try clear c71
            try clear c72
            try clear c73
            try clear c76
            try clear c76b0
            try clear c78
            try clear c79
            try clear c80
            try clear c81
            try clear c83
            try clear c84
            try clear c87
            try clear c88
            try clear c89
            try clear c91
            try clear c92
            try clear c95
            try clear c98
            try clear c98b0
            try clear c99
            try clear c99b0
            try clear c99b1
            try clear c103
            try clear c104
            try clear c105
            try clear c110
            try clear c111
            try clear c119
            try clear c120
            try clear c121
            try clear c122
            try clear c126
            try clear c127
            try clear c128
            try clear c129
            try clear c130
            try clear c132
            try clear c133
            try clear c134
            try clear c137
            try clear c138
            try clear c139
            try clear c140
            try clear c142
            try clear c143
            try clear c144
            try clear hcz106_0
            try clear hcz106_1
            try clear hcz108_0
            try clear hcz108_1
            try clear hcz112_0
            try clear hcz112_1
            try clear hcz123_0
            try clear hcz123_1
            try clear hcz131_0
            try clear hcz131_1
            try clear hcz135_0
            try clear hcz135_1
            try clear hcz141_0
            try clear hcz141_1
            try clear hcz145_0
            try clear hcz145_1
            try clear hcz14_0
            try clear hcz14_1
            try clear hcz16_0
            try clear hcz16_1
            try clear hcz24_0
            try clear hcz24_1
            try clear hcz26_0
            try clear hcz26_1
            try clear hcz32_0
            try clear hcz32_1
            try clear hcz40_0
            try clear hcz40_1
            try clear hcz47_0
            try clear hcz47_1
            try clear hcz50_0
            try clear hcz50_1
            try clear hcz55_0
            try clear hcz55_1
            try clear hcz58_0
            try clear hcz58_1
            try clear hcz6_0
            try clear hcz6_1
            try clear hcz74_0
            try clear hcz74_1
            try clear hcz82_0
            try clear hcz82_1
            try clear hcz85_0
            try clear hcz85_1
            try clear hcz90_0
            try clear hcz90_1
            try clear hcz93_0
            try clear hcz93_1
            try clear hfz106_0
            try clear hfz106_1
            try clear hfz108_0
            try clear hfz108_1
            try clear hfz112_0
            try clear hfz112_1
            try clear hfz123_0
            try clear hfz123_1
            try clear hfz131_0
            try clear hfz131_1
            try clear hfz135_0
            try clear hfz135_1
            try clear hfz141_0
            try clear hfz141_1
            try clear hfz145_0
            try clear hfz145_1
            try clear hfz14_0
            try clear hfz14_1
            try clear hfz16_0
            try clear hfz16_1
            try clear hfz24_0
            try clear hfz24_1
            try clear hfz26_0
            try clear hfz26_1
            try clear hfz32_0
            try clear hfz32_1
            try clear hfz40_0
            try clear hfz40_1
            try clear hfz47_0
            try clear hfz47_1
            try clear hfz50_0
            try clear hfz50_1
            try clear hfz55_0
            try clear hfz55_1
            try clear hfz58_0
            try clear hfz58_1
            try clear hfz6_0
            try clear hfz6_1
            try clear hfz74_0
            try clear hfz74_1
            try clear hfz82_0
            try clear hfz82_1
            try clear hfz85_0
            try clear hfz85_1
            try clear hfz90_0
            try clear hfz90_1
            try clear hfz93_0
            try clear hfz93_1
            try clear p2
            obtain ⟨kq, x92_101, rfl, HA, HJ101, HO_225000, HO_225001, HO_232000, HO_232001, HO_240000, HO_240001, HO_270000, HO_270001, BK209, BK224, BK231, BK239, BK269, HB⟩ := hcut
            have hl240000_101 := (Kd.R_reads' HO_240000.out).1
            rw [hl240000_101] at HO_240000
            (try simp only [hl240000_101])
            (try simp only [hl240000_101] at BK209)
            (try simp only [hl240000_101] at BK224)
            (try simp only [hl240000_101] at BK231)
            (try simp only [hl240000_101] at BK239)
            (try simp only [hl240000_101] at BK269)
            (try simp only [hl240000_101] at HO_225000)
            (try simp only [hl240000_101] at HO_225001)
            (try simp only [hl240000_101] at HO_232000)
            (try simp only [hl240000_101] at HO_232001)
            (try simp only [hl240000_101] at HO_240001)
            (try simp only [hl240000_101] at HO_270000)
            (try simp only [hl240000_101] at HO_270001)
            have hl240001_101 := (Kd.R_reads' HO_240001.out).1
            rw [hl240001_101] at HO_240001
            (try simp only [hl240001_101])
            (try simp only [hl240001_101] at BK209)
            (try simp only [hl240001_101] at BK224)
            (try simp only [hl240001_101] at BK231)
            (try simp only [hl240001_101] at BK239)
            (try simp only [hl240001_101] at BK269)
            (try simp only [hl240001_101] at HO_225000)
            (try simp only [hl240001_101] at HO_225001)
            (try simp only [hl240001_101] at HO_232000)
            (try simp only [hl240001_101] at HO_232001)
            (try simp only [hl240001_101] at HO_240000)
            (try simp only [hl240001_101] at HO_270000)
            (try simp only [hl240001_101] at HO_270001)
            cases kq with
            | zero => exact absurd HA.out (by simp [laws_FnExactFillLock.j2])
            | succ kj101 =>
             have H := HA.out
             clear HA
             simp only [laws_FnExactFillLock.j2] at H
             by_cases c147 : x92_101 = true
             ·subst c147
              have H1 : (some false) = some true := by first | (rw [if_pos rfl] at H; exact H) | rfl
              clear H
              have H := H1
              clear H1
              exact absurd H (by simp)
             ·replace c147 := Bool.eq_false_iff.mpr c147
              subst c147
              have H1 : ((laws_heldFlight.f kj101 t253 t254 1).bind fun t271 => (if t271 < 0 then (some false) else (if t271 = t252 then (some true) else (some false)))) = some true := by first | (rw [if_neg (show ¬ (false = true) by decide)] at H; exact H) | rfl
              clear H
              have H := H1
              clear H1
              replace H := Option.bind_eq_some_iff.mp H
              obtain ⟨t271, A1480, H⟩ := H
              replace H : (if t271 < 0 then (some false) else (if t271 = t252 then (some true) else (some false))) = some true := H
              have A148 := Aside0.mk A1480
              clear A1480
              by_cases c149 : t271 < 0
              ·rw [if_pos c149] at H
               have c149b0 : decide (t271 < 0) = true := decide_eq_true c149
               clear c149
               exact absurd H (by simp)
              ·rw [if_neg c149] at H
               have c149b0 : decide (t271 < 0) = false := decide_eq_false c149
               clear c149
               by_cases c150 : t271 = t252
               ·rw [if_pos c150] at H
                have c150b0 : (t271 == t252) = true := beq_iff_eq.mpr c150
                have c150b1 : (t271 != t252) = false := bne_eq_false_iff_eq.mpr c150
                clear c150
                clear H
                have hnb151 := NB239_209.out
                have hnc151 := NB209_239.out
                have hnb152 := NB239_224.out
                have hnc152 := NB224_239.out
                have hnb153 := NB239_231.out
                have hnc153 := NB231_239.out
                have hnb154 := NB239_269.out
                have hnc154 := NB269_239.out
                have hcz155_0 : wc.cell? ⟨gb239, 0, none⟩ = some (.slice Ao36 t253.length co36) := (blk_cell BK239.out 0).trans rfl
                have hcz155_1 : wc.cell? ⟨gb239, 1, none⟩ = some (.slice Ao41 t254.length co41) := (blk_cell BK239.out 1).trans rfl
                have hfz155_0 := blk_frozen BK239.out 0
                have hfz155_1 := blk_frozen BK239.out 1
                go_wp2_with (first | ((with_reducible refine gate_callee (f := 20) rfl ?_); refine goesL_ (some 95) rfl rfl Try.func20 (by kernel_rfl) rfl #[.agg #[.slice Ao36 t253.length co36, .slice Ao41 t254.length co41], .int .i64 1] rfl (by (try simp only [List.map_toArray, List.map_cons, List.map_nil]); first | done | rfl | (simp only [List.length_drop, List.length_take]; rfl)) ?_; (with_reducible refine (laws_heldFlight.calls kj101 _ _ t253 _ _ t254 1 t271 _ ?side1 ?side2 ?side3 ?side4 A148.out).mono ?_); (case side1 => exact xd ((Kd.R_reads' HO_240000.out).2.2)); (case side2 => exact (Kd.R_reads' HO_240000.out).2.1); (case side3 => exact xd ((Kd.R_reads' HO_240001.out).2.2)); (case side4 => exact (Kd.R_reads' HO_240001.out).2.1); rintro e w156 ⟨rfl, hb⟩; refine ⟨_, rfl, ?_⟩; replace HO_225000 := xq HO_225000 hb; replace HO_225001 := xq HO_225001 hb; replace HO_232000 := xq HO_232000 hb; replace HO_232001 := xq HO_232001 hb; replace HO_240000 := xq HO_240000 hb; replace HO_240001 := xq HO_240001 hb; replace HO_270000 := xq HO_270000 hb; replace HO_270001 := xq HO_270001 hb; replace BK209 := xk BK209 hb; replace BK224 := xk BK224 hb; replace BK231 := xk BK231 hb; replace BK239 := xk BK239 hb; replace BK269 := xk BK269 hb; replace HB := xp HB hb; (try clear hb); (try clear hb2); (try clear hk); (try clear hi)))
                go_ret
                exact ⟨by first | rfl | (simp [errW_none, errW_some] <;> rfl) | (simp [*, errW_none, errW_some] <;> rfl), by repeat (first | (with_reducible first | exact HB.out | apply below_alloc | apply pw_below_drewN | apply below_drew1 | refine below_set ?_ GE209.out | refine below_set ?_ GE224.out | refine below_set ?_ GE231.out | refine below_set ?_ GE239.out | refine below_set ?_ GE269.out) | exact HB.out)⟩
               ·rw [if_neg c150] at H
                have c150b0 : (t271 == t252) = false := beq_eq_false_iff_ne.mpr c150
                have c150b1 : (t271 != t252) = true := bne_iff_ne.mpr c150
                exact absurd H (by simp)
          ·rw [if_neg c99] at H
           have c99b0 : (t255 == t252) = false := beq_eq_false_iff_ne.mpr c99
           have c99b1 : (t255 != t252) = true := bne_iff_ne.mpr c99
           exact absurd H (by simp)
     ·replace c63 := Bool.eq_false_iff.mpr c63
      subst c63
      have H1 : (some false) = some true := by first | (rw [if_neg (show ¬ (false = true) by decide)] at H; exact H) | rfl
      clear H
      have H := H1
      clear H1
      exact absurd H (by simp)

end Go.Proofs.Ytmedapafllmhjaa.PFnExactFillLock

/- Lean functions of the Go functions that the law FnExactWaterUsed reaches, and the proofs that the calls come to what they say (made by program). -/
import Derived.Test.YtmedapafllmhjaaDoorAb
import Derived.Test.YtmedapafllmhjaaDoorPFnExactWaterUsedx0
import Derived.Test.YtmedapafllmhjaaDoorPFnExactWaterUsedx1
import Derived.Test.YtmedapafllmhjaaDoorPFnExactWaterUsedx3
import Derived.Test.YtmedapafllmhjaaDoorPFnExactWaterUsedx6
namespace Go.Proofs.YtmedapafllmhjaaDoor.PFnExactWaterUsed
open Go.RowKit Go.Proofs.YtmedapafllmhjaaDoorW.PrintWords Go.Proofs.YtmedapafllmhjaaDoorW.PrintLast Go.Proofs.YtmedapafllmhjaaDoorW.PrintMore Go.Proofs.YtmedapafllmhjaaDoor.Ab
attribute [local go_sem] max2_int min2_int max_two min_two max_three min_three max_four min_four   -- for this text's walks alone
set_option linter.unusedVariables false
set_option linter.unusedSimpArgs false

/-! ### laws_FnExactWaterUsed: function 4 -/
def laws_FnExactWaterUsed.j0 : Nat → Bool → List Int → List Bool → List Int → List Bool → Option (Bool)
  | 0, _, _, _, _, _ => none
  | k + 1, x41, x177000, x177001, x193000, x193001 => if x41 = true then (some false) else ((laws_toFlight.f k x177000 x177001).bind fun bt195 => ((laws_eqFlight.f k x193000 x193001 bt195.1 bt195.2).bind fun t201 => (if t201 = true then (some true) else (some false))))
def laws_FnExactWaterUsed.f (k : Nat) (l0_0 : List Int) (l0_1 : List Bool) (a1 : ByteArray) : Option (Bool) := if (a1.size : Int) > 1048576 then (some true) else ((laws_szFlight.f l0_0 l0_1 1048576).bind fun t177 => (if t177 < 0 then (some true) else ((laws_toFlight.f k l0_0 l0_1).bind fun bt178 => ((spec_WaterUsed.f k bt178.1 bt178.2 a1).bind fun bt184 => ((laws_toFlight.f k l0_0 l0_1).bind fun bt186 => ((impl_WaterUsed.f bt186.1 bt186.2 a1).bind fun bt193 => (if bt193.1 = bt184.1 then (laws_FnExactWaterUsed.j0 k (bt193.2 != bt184.2) l0_0 l0_1 bt186.1 bt186.2) else (laws_FnExactWaterUsed.j0 k true l0_0 l0_1 bt186.1 bt186.2))))))))
theorem laws_FnExactWaterUsed.mono_l : ∀ k, (∀ y0 y1 y2 y3 y4, LeO (laws_FnExactWaterUsed.j0 k y0 y1 y2 y3 y4) (laws_FnExactWaterUsed.j0 (k + 1) y0 y1 y2 y3 y4))
 | 0 => fun _ _ _ _ _ r h => by simp [laws_FnExactWaterUsed.j0] at h
 | k + 1 => by
  have ih0 := laws_FnExactWaterUsed.mono_l k
  ·intro y0 y1 y2 y3 y4
   unfold laws_FnExactWaterUsed.j0
   repeat' first
   | (with_reducible exact ih0 _ _ _ _ _)
   | (with_reducible exact laws_eqFlight.mono _ _ _ _ _)
   | (with_reducible exact laws_toFlight.mono _ _ _)
   | (with_reducible exact spec_WaterUsed.mono _ _ _ _)
   | (with_reducible exact LeO.refl _)
   | (with_reducible exact LeO.none _)
   | (with_reducible refine LeO.ite ?_ ?_)
   | (with_reducible refine LeO.bind ?_ (fun _ => ?_))
   | exact ih0 _ _ _ _ _
   | exact laws_eqFlight.mono _ _ _ _ _
   | exact laws_toFlight.mono _ _ _
   | exact spec_WaterUsed.mono _ _ _ _
   | exact LeO.none _
   | refine LeO.ite ?_ ?_
   | refine LeO.bind ?_ (fun _ => ?_)
theorem laws_FnExactWaterUsed.mono : ∀ a0 a1 a2 k, LeO (laws_FnExactWaterUsed.f k a0 a1 a2) (laws_FnExactWaterUsed.f (k + 1) a0 a1 a2) := by
 intro a0 a1 a2 k
 have ih0 := laws_FnExactWaterUsed.mono_l k
 unfold laws_FnExactWaterUsed.f
 repeat' first
   | (with_reducible exact ih0 _ _ _ _ _)
   | (with_reducible exact laws_eqFlight.mono _ _ _ _ _)
   | (with_reducible exact laws_toFlight.mono _ _ _)
   | (with_reducible exact spec_WaterUsed.mono _ _ _ _)
   | (with_reducible exact LeO.refl _)
   | (with_reducible exact LeO.none _)
   | (with_reducible refine LeO.ite ?_ ?_)
   | (with_reducible refine LeO.bind ?_ (fun _ => ?_))
   | exact ih0 _ _ _ _ _
   | exact laws_eqFlight.mono _ _ _ _ _
   | exact laws_toFlight.mono _ _ _
   | exact spec_WaterUsed.mono _ _ _ _
   | exact LeO.none _
   | refine LeO.ite ?_ ?_
   | refine LeO.bind ?_ (fun _ => ?_)
set_option maxHeartbeats 8000000 in
set_option maxRecDepth 100000 in
theorem laws_FnExactWaterUsed.calls (k : Nat) (A0_0 : Option Addr) (c0_0 : Nat) (l0_0 : List Int) (A0_1 : Option Addr) (c0_1 : Nat) (l0_1 : List Bool) (a1 : ByteArray) (w : World) (hr0_0 : Kd.C (Kd.int .i64) w A0_0 l0_0.length l0_0) (hc0_0 : l0_0.length ≤ c0_0) (hr0_1 : Kd.C Kd.bool w A0_1 l0_1.length l0_1) (hc0_1 : l0_1.length ≤ c0_1) (h : laws_FnExactWaterUsed.f k l0_0 l0_1 a1 = some true) :
  Calls Tryd.prog 4 #[.agg #[.slice A0_0 l0_0.length c0_0, .slice A0_1 l0_1.length c0_1], .string a1] w fun e w' => e = .returned (.bool true) ∧ Below w.heap.size w w' := by
 have hu26 := Tryd.underlying26
 have hu30 := Tryd.underlying30
 have HR0_0 := Aside0.mk hr0_0
 have HC0_0 := Aside0.mk hc0_0
 clear hr0_0 hc0_0
 have HR0_1 := Aside0.mk hr0_1
 have HC0_1 := Aside0.mk hc0_1
 clear hr0_1 hc0_1
 have HB := Aside0.mk (Below.refl w.heap.size w)
 have H : (if (a1.size : Int) > 1048576 then (some true) else ((laws_szFlight.f l0_0 l0_1 1048576).bind fun t177 => (if t177 < 0 then (some true) else ((laws_toFlight.f k l0_0 l0_1).bind fun bt178 => ((spec_WaterUsed.f k bt178.1 bt178.2 a1).bind fun bt184 => ((laws_toFlight.f k l0_0 l0_1).bind fun bt186 => ((impl_WaterUsed.f bt186.1 bt186.2 a1).bind fun bt193 => (if bt193.1 = bt184.1 then (laws_FnExactWaterUsed.j0 k (bt193.2 != bt184.2) l0_0 l0_1 bt186.1 bt186.2) else (laws_FnExactWaterUsed.j0 k true l0_0 l0_1 bt186.1 bt186.2))))))))) = some true := h
 clear h
 by_cases c3 : (a1.size : Int) > 1048576
 ·rw [if_pos c3] at H
  have c3b0 : decide (1048576 < (a1.size : Int)) = true := decide_eq_true c3
  have c3b1 : decide (1048576 < a1.size) = true := decide_eq_true (by omega)
  clear c3
  clear H
  go_enter Tryd.func4, Tryd.ntmps4
  go_wp2_with (first | ((with_reducible refine gate_dst (N := 2) rfl ?_); refine box_event ?hg (N := 2) ?hd (cs := #[.slice A0_0 l0_0.length c0_0, .slice A0_1 l0_1.length c0_1]) (t := 26) ?hr ?_; (case hd => rfl); (case hg => rfl); (case hr => first | (go_simp; done) | (go_simp; rfl)); intro gb176 hg w4 hbox hb; have BK176 := Aside0.mk (hbox); have GW176 := xg HB hg; have GE176 := xg HB hg; replace HB := xp HB hb; clear hb hbox hg))
  go_ret
  exact ⟨by first | rfl | (simp [errW_none, errW_some] <;> rfl) | (simp [*, errW_none, errW_some] <;> rfl), by repeat (first | (with_reducible first | exact HB.out | apply below_alloc | apply pw_below_drewN | apply below_drew1 | refine below_set ?_ GE176.out) | exact HB.out)⟩
 ·rw [if_neg c3] at H
  have c3b0 : decide (1048576 < (a1.size : Int)) = false := decide_eq_false c3
  have c3b1 : decide (1048576 < a1.size) = false := decide_eq_false (by omega)
  clear c3
  replace H := Option.bind_eq_some_iff.mp H
  obtain ⟨t177, A50, H⟩ := H
  replace H : (if t177 < 0 then (some true) else ((laws_toFlight.f k l0_0 l0_1).bind fun bt178 => ((spec_WaterUsed.f k bt178.1 bt178.2 a1).bind fun bt184 => ((laws_toFlight.f k l0_0 l0_1).bind fun bt186 => ((impl_WaterUsed.f bt186.1 bt186.2 a1).bind fun bt193 => (if bt193.1 = bt184.1 then (laws_FnExactWaterUsed.j0 k (bt193.2 != bt184.2) l0_0 l0_1 bt186.1 bt186.2) else (laws_FnExactWaterUsed.j0 k true l0_0 l0_1 bt186.1 bt186.2))))))) = some true := H
  have A5 := Aside0.mk A50
  clear A50
  by_cases c6 : t177 < 0
  ·rw [if_pos c6] at H
   have c6b0 : decide (t177 < 0) = true := decide_eq_true c6
   clear c6
   clear H
   go_enter Tryd.func4, Tryd.ntmps4
   go_wp2_with (first | ((with_reducible refine gate_dst (N := 2) rfl ?_); refine box_event ?hg (N := 2) ?hd (cs := #[.slice A0_0 l0_0.length c0_0, .slice A0_1 l0_1.length c0_1]) (t := 26) ?hr ?_; (case hd => rfl); (case hg => rfl); (case hr => first | (go_simp; done) | (go_simp; rfl)); intro gb176 hg w7 hbox hb; have BK176 := Aside0.mk (hbox); have GW176 := xg HB hg; have GE176 := xg HB hg; replace HB := xp HB hb; clear hb hbox hg; have hcz8_0 : w7.cell? ⟨gb176, 0, none⟩ = some (.slice A0_0 l0_0.length c0_0) := (blk_cell BK176.out 0).trans rfl; have hcz8_1 : w7.cell? ⟨gb176, 1, none⟩ = some (.slice A0_1 l0_1.length c0_1) := (blk_cell BK176.out 1).trans rfl; have hfz8_0 := blk_frozen BK176.out 0; have hfz8_1 := blk_frozen BK176.out 1) | ((with_reducible refine gate_callee (f := 10) rfl ?_); refine goesL_ (some 16) rfl rfl Tryd.func10 (by kernel_rfl) rfl #[.agg #[.slice A0_0 l0_0.length c0_0, .slice A0_1 l0_1.length c0_1], .int .i64 1048576] rfl (by (try simp only [List.map_toArray, List.map_cons, List.map_nil]); first | done | rfl | (simp only [List.length_drop, List.length_take]; rfl)) ?_; (with_reducible refine (laws_szFlight.calls _ _ l0_0 _ _ l0_1 1048576 t177 _ ?side1 ?side2 ?side3 ?side4 A5.out).mono ?_); (case side1 => exact xd ((Kd.C_below HR0_0.out HB.out))); (case side2 => exact HC0_0.out); (case side3 => exact xd ((Kd.C_below HR0_1.out HB.out))); (case side4 => exact HC0_1.out); rintro e w9 ⟨rfl, hb⟩; refine ⟨_, rfl, ?_⟩; replace BK176 := xk BK176 hb; replace HB := xp HB hb; (try clear hb); (try clear hb2); (try clear hk); (try clear hi)))
   go_ret
   exact ⟨by first | rfl | (simp [errW_none, errW_some] <;> rfl) | (simp [*, errW_none, errW_some] <;> rfl), by repeat (first | (with_reducible first | exact HB.out | apply below_alloc | apply pw_below_drewN | apply below_drew1 | refine below_set ?_ GE176.out) | exact HB.out)⟩
  ·rw [if_neg c6] at H
   have c6b0 : decide (t177 < 0) = false := decide_eq_false c6
   clear c6
   replace H := Option.bind_eq_some_iff.mp H
   obtain ⟨⟨t178, t181⟩, A100, H⟩ := H
   replace H : ((spec_WaterUsed.f k t178 t181 a1).bind fun bt184 => ((laws_toFlight.f k l0_0 l0_1).bind fun bt186 => ((impl_WaterUsed.f bt186.1 bt186.2 a1).bind fun bt193 => (if bt193.1 = bt184.1 then (laws_FnExactWaterUsed.j0 k (bt193.2 != bt184.2) l0_0 l0_1 bt186.1 bt186.2) else (laws_FnExactWaterUsed.j0 k true l0_0 l0_1 bt186.1 bt186.2))))) = some true := H
   have A10 := Aside0.mk A100
   clear A100
   replace H := Option.bind_eq_some_iff.mp H
   obtain ⟨⟨t184, t185⟩, A110, H⟩ := H
   replace H : ((laws_toFlight.f k l0_0 l0_1).bind fun bt186 => ((impl_WaterUsed.f bt186.1 bt186.2 a1).bind fun bt193 => (if bt193.1 = t184 then (laws_FnExactWaterUsed.j0 k (bt193.2 != t185) l0_0 l0_1 bt186.1 bt186.2) else (laws_FnExactWaterUsed.j0 k true l0_0 l0_1 bt186.1 bt186.2)))) = some true := H
   have A11 := Aside0.mk A110
   clear A110
   replace H := Option.bind_eq_some_iff.mp H
   obtain ⟨⟨t186, t189⟩, A120, H⟩ := H
   replace H : ((impl_WaterUsed.f t186 t189 a1).bind fun bt193 => (if bt193.1 = t184 then (laws_FnExactWaterUsed.j0 k (bt193.2 != t185) l0_0 l0_1 t186 t189) else (laws_FnExactWaterUsed.j0 k true l0_0 l0_1 t186 t189))) = some true := H
   have A12 := Aside0.mk A120
   clear A120
   replace H := Option.bind_eq_some_iff.mp H
   obtain ⟨⟨t193, t194⟩, A130, H⟩ := H
   replace H : (if t193 = t184 then (laws_FnExactWaterUsed.j0 k (t194 != t185) l0_0 l0_1 t186 t189) else (laws_FnExactWaterUsed.j0 k true l0_0 l0_1 t186 t189)) = some true := H
   have A13 := Aside0.mk A130
   clear A130
   have HC14 := Aside0.mk H
   clear H
   go_enter Tryd.func4, Tryd.ntmps4
   go_upto_region 10 with (first | ((with_reducible refine gate_dst (N := 2) rfl ?_); refine box_event ?hg (N := 2) ?hd (cs := #[.slice A0_0 l0_0.length c0_0, .slice A0_1 l0_1.length c0_1]) (t := 26) ?hr ?_; (case hd => rfl); (case hg => rfl); (case hr => first | (go_simp; done) | (go_simp; rfl)); intro gb176 hg w15 hbox hb; have BK176 := Aside0.mk (hbox); have GW176 := xg HB hg; have GE176 := xg HB hg; replace HB := xp HB hb; clear hb hbox hg; have hcz16_0 : w15.cell? ⟨gb176, 0, none⟩ = some (.slice A0_0 l0_0.length c0_0) := (blk_cell BK176.out 0).trans rfl; have hcz16_1 : w15.cell? ⟨gb176, 1, none⟩ = some (.slice A0_1 l0_1.length c0_1) := (blk_cell BK176.out 1).trans rfl; have hfz16_0 := blk_frozen BK176.out 0; have hfz16_1 := blk_frozen BK176.out 1) | ((with_reducible refine gate_callee (f := 10) rfl ?_); refine goesL_ (some 16) rfl rfl Tryd.func10 (by kernel_rfl) rfl #[.agg #[.slice A0_0 l0_0.length c0_0, .slice A0_1 l0_1.length c0_1], .int .i64 1048576] rfl (by (try simp only [List.map_toArray, List.map_cons, List.map_nil]); first | done | rfl | (simp only [List.length_drop, List.length_take]; rfl)) ?_; (with_reducible refine (laws_szFlight.calls _ _ l0_0 _ _ l0_1 1048576 t177 _ ?side1 ?side2 ?side3 ?side4 A5.out).mono ?_); (case side1 => exact xd ((Kd.C_below HR0_0.out HB.out))); (case side2 => exact HC0_0.out); (case side3 => exact xd ((Kd.C_below HR0_1.out HB.out))); (case side4 => exact HC0_1.out); rintro e w17 ⟨rfl, hb⟩; refine ⟨_, rfl, ?_⟩; replace BK176 := xk BK176 hb; replace HB := xp HB hb; (try clear hb); (try clear hb2); (try clear hk); (try clear hi); have hcz18_0 : w17.cell? ⟨gb176, 0, none⟩ = some (.slice A0_0 l0_0.length c0_0) := (blk_cell BK176.out 0).trans rfl; have hcz18_1 : w17.cell? ⟨gb176, 1, none⟩ = some (.slice A0_1 l0_1.length c0_1) := (blk_cell BK176.out 1).trans rfl; have hfz18_0 := blk_frozen BK176.out 0; have hfz18_1 := blk_frozen BK176.out 1) | ((with_reducible refine gate_callee (f := 12) rfl ?_); refine goesL_ (some 21) rfl rfl Tryd.func12 (by kernel_rfl) rfl #[.agg #[.slice A0_0 l0_0.length c0_0, .slice A0_1 l0_1.length c0_1]] rfl (by (try simp only [List.map_toArray, List.map_cons, List.map_nil]); first | done | rfl | (simp only [List.length_drop, List.length_take]; rfl)) ?_; (with_reducible refine (laws_toFlight.calls k _ _ l0_0 _ _ l0_1 t178 t181 _ ?side1 ?side2 ?side3 ?side4 A10.out).mono ?_); (case side1 => exact xd ((Kd.C_below HR0_0.out HB.out))); (case side2 => exact HC0_0.out); (case side3 => exact xd ((Kd.C_below HR0_1.out HB.out))); (case side4 => exact HC0_1.out); rintro e w19 ⟨v179, v182, rfl, ho0, ho1, hb⟩; refine ⟨_, rfl, ?_⟩; have HO180 := Aside0.mk (Kd.R_lower ho0 (below_size (xs HB.out))); have HO183 := Aside0.mk (Kd.R_lower ho1 (below_size (xs HB.out))); replace BK176 := xk BK176 hb; replace HB := xp HB hb; (try clear hb); (try clear hb2); (try clear hk); (try clear hi); (try clear ho0); (try clear ho1); obtain ⟨Ao20, co20, eo20⟩ := Kd.R_slice HO180.out; subst eo20; obtain ⟨Ao21, co21, eo21⟩ := Kd.R_slice HO183.out; subst eo21) | ((with_reducible refine gate_callee (f := 11) rfl ?_); refine goesL_ (some 23) rfl rfl Tryd.func11 (by kernel_rfl) rfl #[.agg #[.slice Ao20 t178.length co20, .slice Ao21 t181.length co21], .string a1] rfl (by (try simp only [List.map_toArray, List.map_cons, List.map_nil]); first | done | rfl | (simp only [List.length_drop, List.length_take]; rfl)) ?_; (with_reducible refine (spec_WaterUsed.calls k _ _ t178 _ _ t181 a1 t184 t185 _ ?side1 ?side2 ?side3 ?side4 A11.out).mono ?_); (case side1 => exact xd ((Kd.R_reads' HO180.out).2.2)); (case side2 => exact (Kd.R_reads' HO180.out).2.1); (case side3 => exact xd ((Kd.R_reads' HO183.out).2.2)); (case side4 => exact (Kd.R_reads' HO183.out).2.1); rintro e w22 ⟨rfl, hb⟩; refine ⟨_, rfl, ?_⟩; replace HO180 := xq HO180 hb; replace HO183 := xq HO183 hb; replace BK176 := xk BK176 hb; replace HB := xp HB hb; (try clear hb); (try clear hb2); (try clear hk); (try clear hi); have hcz23_0 : w22.cell? ⟨gb176, 0, none⟩ = some (.slice A0_0 l0_0.length c0_0) := (blk_cell BK176.out 0).trans rfl; have hcz23_1 : w22.cell? ⟨gb176, 1, none⟩ = some (.slice A0_1 l0_1.length c0_1) := (blk_cell BK176.out 1).trans rfl; have hfz23_0 := blk_frozen BK176.out 0; have hfz23_1 := blk_frozen BK176.out 1) | ((with_reducible refine gate_callee (f := 12) rfl ?_); refine goesL_ (some 27) rfl rfl Tryd.func12 (by kernel_rfl) rfl #[.agg #[.slice A0_0 l0_0.length c0_0, .slice A0_1 l0_1.length c0_1]] rfl (by (try simp only [List.map_toArray, List.map_cons, List.map_nil]); first | done | rfl | (simp only [List.length_drop, List.length_take]; rfl)) ?_; (with_reducible refine (laws_toFlight.calls k _ _ l0_0 _ _ l0_1 t186 t189 _ ?side1 ?side2 ?side3 ?side4 A12.out).mono ?_); (case side1 => exact xd ((Kd.C_below HR0_0.out HB.out))); (case side2 => exact HC0_0.out); (case side3 => exact xd ((Kd.C_below HR0_1.out HB.out))); (case side4 => exact HC0_1.out); rintro e w24 ⟨v187, v190, rfl, ho0, ho1, hb⟩; refine ⟨_, rfl, ?_⟩; have HO188 := Aside0.mk (Kd.R_lower (Kd.R_new' ho0 (Kd.R_lt (xr HO180.out))) (below_size (xs HB.out))); replace HO180 := Aside0.mk (Kd.R_elder' (xr HO180.out) (Kd.R_base ho0) hb); have HO191 := Aside0.mk (Kd.R_lower (Kd.R_new' ho1 (Kd.R_lt (xr HO183.out))) (below_size (xs HB.out))); replace HO183 := Aside0.mk (Kd.R_elder' (xr HO183.out) (Kd.R_base ho1) hb); replace BK176 := xk BK176 hb; replace HB := xp HB hb; (try clear hb); (try clear hb2); (try clear hk); (try clear hi); (try clear ho0); (try clear ho1)) | ((with_reducible refine gate_dst (N := 8) rfl ?_); refine box_event ?hg (N := 8) ?hd (cs := #[.slice none 0 0, .slice none 0 0]) (t := 30) ?hr ?_; (case hd => rfl); (case hg => rfl); (case hr => first | (go_simp; done) | (go_simp; rfl)); intro gb192 hg w25 hbox hb; replace HO180 := xq HO180 hb; replace HO183 := xq HO183 hb; replace HO188 := xq HO188 hb; replace HO191 := xq HO191 hb; have BK192 := Aside0.mk (hbox); have GW192 := xg HB hg; have GE192 := xg HB hg; replace HB := xp HB hb; have NB176_192 := xl BK176 hg; have NB192_176 := xh BK176 hg; replace BK176 := xk BK176 hb; clear hb hbox hg; obtain ⟨Ao26, co26, eo26⟩ := Kd.R_slice HO188.out; subst eo26; have hnb27 := NB192_176.out; have hnc27 := NB176_192.out; have hcz28_0 : w25.cell? ⟨gb192, 0, none⟩ = some (.slice none 0 0) := (blk_cell BK192.out 0).trans rfl; have hcz28_1 : w25.cell? ⟨gb192, 1, none⟩ = some (.slice none 0 0) := (blk_cell BK192.out 1).trans rfl; have hfz28_0 := blk_frozen BK192.out 0; have hfz28_1 := blk_frozen BK192.out 1; obtain ⟨Ao29, co29, eo29⟩ := Kd.R_slice HO191.out; subst eo29) | ((with_reducible refine gate_callee (f := 13) rfl ?_); refine goesL_ (some 31) rfl rfl Tryd.func13 (by kernel_rfl) rfl #[.agg #[.slice Ao26 t186.length co26, .slice Ao29 t189.length co29], .string a1] rfl (by (try simp only [List.map_toArray, List.map_cons, List.map_nil]); first | done | rfl | (simp only [List.length_drop, List.length_take]; rfl)) ?_; (with_reducible refine (impl_WaterUsed.calls _ _ t186 _ _ t189 a1 t193 t194 _ ?side1 ?side2 ?side3 ?side4 A13.out).mono ?_); (case side1 => refine (Kd.R_reads' (e := 3) (base := w.heap.size) (ok := fun k_ => (True ∧ nS k_ Ao20 t178.length co20)) (n := t186.length) (c := co26) ?_).2.2; exact (by (with_reducible repeat (first | apply Kd.R_alloc | apply Kd.R_drewN | apply Kd.R_drew)); exact (Kd.R_mono (Kd.R_far (p := ⟨gb192, 1, none⟩) (Kd.R_far (p := ⟨gb192, 0, none⟩) (Kd.R_types HO188.out BK192.out (by decide)) (fun _ hk => hk.2) (.slice Ao26 t186.length co26)) (fun _ hk => hk.2) (.slice Ao29 t189.length co29)) (fun _ h_ => h_.1)))); (case side2 => exact (Kd.R_reads' HO188.out).2.1); (case side3 => refine (Kd.R_reads' (e := 4) (base := w.heap.size) (ok := fun k_ => (True ∧ nS k_ Ao21 t181.length co21)) (n := t189.length) (c := co29) ?_).2.2; exact (by (with_reducible repeat (first | apply Kd.R_alloc | apply Kd.R_drewN | apply Kd.R_drew)); exact (Kd.R_mono (Kd.R_far (p := ⟨gb192, 1, none⟩) (Kd.R_far (p := ⟨gb192, 0, none⟩) (Kd.R_types HO191.out BK192.out (by decide)) (fun _ hk => hk.2) (.slice Ao26 t186.length co26)) (fun _ hk => hk.2) (.slice Ao29 t189.length co29)) (fun _ h_ => h_.1)))); (case side4 => exact (Kd.R_reads' HO191.out).2.1); rintro e w30 ⟨rfl, hb⟩; refine ⟨_, rfl, ?_⟩; replace HO180 := Aside0.mk (Kd.R_below (by (with_reducible repeat (first | apply Kd.R_alloc | apply Kd.R_drewN | apply Kd.R_drew)); exact (Kd.R_mono (Kd.R_far (p := ⟨gb192, 1, none⟩) (Kd.R_far (p := ⟨gb192, 0, none⟩) (Kd.R_types HO180.out BK192.out (by decide)) (fun _ hk => hk.2) (.slice Ao26 t186.length co26)) (fun _ hk => hk.2) (.slice Ao29 t189.length co29)) (fun _ h_ => h_.1))) hb); replace HO183 := Aside0.mk (Kd.R_below (by (with_reducible repeat (first | apply Kd.R_alloc | apply Kd.R_drewN | apply Kd.R_drew)); exact (Kd.R_mono (Kd.R_far (p := ⟨gb192, 1, none⟩) (Kd.R_far (p := ⟨gb192, 0, none⟩) (Kd.R_types HO183.out BK192.out (by decide)) (fun _ hk => hk.2) (.slice Ao26 t186.length co26)) (fun _ hk => hk.2) (.slice Ao29 t189.length co29)) (fun _ h_ => h_.1))) hb); replace HO188 := Aside0.mk (Kd.R_below (by (with_reducible repeat (first | apply Kd.R_alloc | apply Kd.R_drewN | apply Kd.R_drew)); exact (Kd.R_mono (Kd.R_far (p := ⟨gb192, 1, none⟩) (Kd.R_far (p := ⟨gb192, 0, none⟩) (Kd.R_types HO188.out BK192.out (by decide)) (fun _ hk => hk.2) (.slice Ao26 t186.length co26)) (fun _ hk => hk.2) (.slice Ao29 t189.length co29)) (fun _ h_ => h_.1))) hb); replace HO191 := Aside0.mk (Kd.R_below (by (with_reducible repeat (first | apply Kd.R_alloc | apply Kd.R_drewN | apply Kd.R_drew)); exact (Kd.R_mono (Kd.R_far (p := ⟨gb192, 1, none⟩) (Kd.R_far (p := ⟨gb192, 0, none⟩) (Kd.R_types HO191.out BK192.out (by decide)) (fun _ hk => hk.2) (.slice Ao26 t186.length co26)) (fun _ hk => hk.2) (.slice Ao29 t189.length co29)) (fun _ h_ => h_.1))) hb); replace BK176 := Aside0.mk (blk_below (g := gb176) (o := .cells #[.slice A0_0 l0_0.length c0_0, .slice A0_1 l0_1.length c0_1] 26 (0, 0)) (xff NB176_192.out NB176_192.out BK176.out) hb); replace BK192 := Aside0.mk (blk_below (g := gb192) (o := .cells #[.slice Ao26 t186.length co26, .slice Ao29 t189.length co29] 30 (0, 0)) (by (with_reducible repeat (first | refine blk_drewN ?_ _ | refine blk_drew ?_ | refine blk_alloc ?_ _)); refine blk_put (cs := #[.slice Ao26 t186.length co26, .slice none 0 0]) ?_ 1 _ rfl; (with_reducible repeat (first | refine blk_drewN ?_ _ | refine blk_drew ?_ | refine blk_alloc ?_ _)); refine blk_put (cs := #[.slice none 0 0, .slice none 0 0]) ?_ 0 _ rfl; (with_reducible repeat (first | refine blk_drewN ?_ _ | refine blk_drew ?_ | refine blk_alloc ?_ _)); exact BK192.out) hb); replace HB := xp HB hb; (try clear hb); (try clear hb2); (try clear hk); (try clear hi)))
   (try simp only [Act.put, List.setIfInBounds_toArray, List.set_cons_zero, List.set_cons_succ])
   go_cut [41] (fun v41 wc => ∃ (kq : Nat) (x41_13 : Bool), v41 = .bool x41_13 ∧ Aside0 (laws_FnExactWaterUsed.j0 kq x41_13 l0_0 l0_1 t186 t189 = some true) ∧ Aside0 (kq ≤ k) ∧ Aside0 (Kd.R (Kd.int .i64) 3 wc w.heap.size (fun _ => True) (.slice Ao26 t186.length co26) t186) ∧ Aside0 (Kd.R Kd.bool 4 wc w.heap.size (fun _ => True) (.slice Ao29 t189.length co29) t189) ∧ Aside0 (wc.heap[gb176]? = some (.cells #[(.slice A0_0 l0_0.length c0_0), (.slice A0_1 l0_1.length c0_1)] 26 (0, 0))) ∧ Aside0 (wc.heap[gb192]? = some (.cells #[(.slice Ao26 t186.length co26), (.slice Ao29 t189.length co29)] 30 (0, 0))) ∧ Aside0 (Below w.heap.size w wc))
   case first =>
    have H := HC14.out
    clear HC14
    by_cases c31 : t193 = t184
    ·rw [if_pos c31] at H
     have c31b0 : (t193 == t184) = true := beq_iff_eq.mpr c31
     have c31b1 : (t193 != t184) = false := bne_eq_false_iff_eq.mpr c31
     clear c31
     (first | rw [c31b0] | (simp only [i64_w, i32_w]; rw [c31b0]) | skip)
     have H' := Aside0.mk H
     clear H
     go_wp2
     go_meet
     case rel => exact ⟨_, ((t194 != t185)), (by first | rfl | (simp; done) | (simp [*]; done)), H', ⟨by first | omega | exact Nat.le_refl _⟩, ⟨xm HO188 (fun _ hk => trivial)⟩, ⟨xm HO191 (fun _ hk => trivial)⟩, ⟨xb BK176.out⟩, ⟨xb BK192.out⟩, ⟨xs HB.out⟩⟩
    ·rw [if_neg c31] at H
     have c31b0 : (t193 == t184) = false := beq_eq_false_iff_ne.mpr c31
     have c31b1 : (t193 != t184) = true := bne_iff_ne.mpr c31
     (first | rw [c31b0] | (simp only [i64_w, i32_w]; rw [c31b0]) | skip)
     have H' := Aside0.mk H
     clear H
     go_wp2
     go_meet
     case rel => exact ⟨_, (true), (by first | rfl | (simp; done) | (simp [*]; done)), H', ⟨by first | omega | exact Nat.le_refl _⟩, ⟨xm HO188 (fun _ hk => trivial)⟩, ⟨xm HO191 (fun _ hk => trivial)⟩, ⟨xb BK176.out⟩, ⟨xb BK192.out⟩, ⟨xs HB.out⟩⟩
   case rest =>
    clear HC14
    try clear c1
    try clear c2
    try clear p2
    try clear c3
    try clear c3b0
    try clear c3b1
    try clear c4
    try clear c6
    try clear c6b0
    try clear c10
    try clear c11
    try clear c12
    try clear c13
    try clear c27
    try clear c31
    try clear c31b0
    try clear c31b1
    try clear hcz16_0
    try clear hcz16_1
    try clear hcz18_0
    try clear hcz18_1
    try clear hcz23_0
    try clear hcz23_1
    try clear hcz28_0
    try clear hcz28_1
    try clear hcz8_0
    try clear hcz8_1
    try clear hfz16_0
    try clear hfz16_1
    try clear hfz18_0
    try clear hfz18_1
    try clear hfz23_0
    try clear hfz23_1
    try clear hfz28_0
    try clear hfz28_1
    try clear hfz8_0
    try clear hfz8_1
    obtain ⟨kq, x41_13, rfl, HA, HJ13, HO_193000, HO_193001, BK176, BK192, HB⟩ := hcut
    cases kq with
    | zero => exact absurd HA.out (by simp [laws_FnExactWaterUsed.j0])
    | succ kj13 =>
     have H := HA.out
     clear HA
     simp only [laws_FnExactWaterUsed.j0] at H
     by_cases c32 : x41_13 = true
     ·subst c32
      have H1 : (some false) = some true := by first | (rw [if_pos rfl] at H; exact H) | rfl
      clear H
      have H := H1
      clear H1
      exact absurd H (by simp)
     ·replace c32 := Bool.eq_false_iff.mpr c32
      subst c32
      have H1 : ((laws_toFlight.f kj13 l0_0 l0_1).bind fun bt195 => ((laws_eqFlight.f kj13 t186 t189 bt195.1 bt195.2).bind fun t201 => (if t201 = true then (some true) else (some false)))) = some true := by first | (rw [if_neg (show ¬ (false = true) by decide)] at H; exact H) | rfl
      clear H
      have H := H1
      clear H1
      replace H := Option.bind_eq_some_iff.mp H
      obtain ⟨⟨t195, t198⟩, A330, H⟩ := H
      replace H : ((laws_eqFlight.f kj13 t186 t189 t195 t198).bind fun t201 => (if t201 = true then (some true) else (some false))) = some true := H
      have A33 := Aside0.mk A330
      clear A330
      replace H := Option.bind_eq_some_iff.mp H
      obtain ⟨t201, A340, H⟩ := H
      replace H : (if t201 = true then (some true) else (some false)) = some true := H
      have A34 := Aside0.mk A340
      clear A340
      by_cases c35 : t201 = true
      ·subst c35
       have H1 : (some true) = some true := by first | (rw [if_pos rfl] at H; exact H) | rfl
       clear H
       have H := H1
       clear H1
       clear H
       try go_wp2
       replace HO_193000 := xw HO_193000
       replace HO_193001 := xw HO_193001
       replace BK176 := xv BK176
       replace BK192 := xv BK192
       replace HB := Aside0.mk (below_drew1 HB.out)
       refine start_ (n := 5) (S := fun w' => w'.cell? ⟨gb192, 0, none⟩ = some (.slice Ao26 t186.length co26) ∧ w'.cell? ⟨gb192, 1, none⟩ = some (.slice Ao29 t189.length co29) ∧ w'.cell? ⟨gb176, 0, none⟩ = some (.slice A0_0 l0_0.length c0_0) ∧ w'.cell? ⟨gb176, 1, none⟩ = some (.slice A0_1 l0_1.length c0_1)) (ds := []) #[false, false, false, false, false] (by kernel_rfl) rfl rfl ⟨(blk_cell BK192.out 0).trans rfl, (blk_cell BK192.out 1).trans rfl, (blk_cell BK176.out 0).trans rfl, (blk_cell BK176.out 1).trans rfl⟩ (fun hHeld => ?_)
       generalize wc.drew = w36 at HO_193000 HO_193001 BK176 BK192 HB hHeld ⊢
       refine take_ (i := 0) (N := some 42) (v := ?_) (a' := ?_) #[true, false, false, false, false] rfl rfl (by kernel_rfl) (fun _ _ _ h => h) (Or.inl ⟨by rfl, ?_⟩) hHeld ?_ ?_
       rotate_left
       ·rintro w' ⟨s0, s1, s2, s3⟩
        go_simp
        with_reducible rfl
       rotate_left
       ·simp only [Act.put, List.setIfInBounds_toArray, List.set_cons_zero, List.set_cons_succ, i64_w, i32_w]
        rfl
       refine take_ (i := 1) (N := some 43) (v := ?_) (a' := ?_) #[true, true, false, false, false] rfl rfl (by kernel_rfl) (fun _ _ _ h => h) (Or.inl ⟨by rfl, ?_⟩) hHeld ?_ ?_
       rotate_left
       ·rintro w' ⟨s0, s1, s2, s3⟩
        go_simp
        with_reducible rfl
       rotate_left
       ·simp only [Act.put, List.setIfInBounds_toArray, List.set_cons_zero, List.set_cons_succ, i64_w, i32_w]
        rfl
       refine one_ (i := 2) (N := some 44) #[true, true, true, false, false] rfl rfl (by kernel_rfl) (by decide) (fun K hK => ?_)
       refine goes_ Tryd.func12 (by kernel_rfl) rfl #[.agg #[.slice A0_0 l0_0.length c0_0, .slice A0_1 l0_1.length c0_1]] (by rfl) rfl rfl (by (try simp only [List.map_toArray, List.map_cons, List.map_nil]); first | done | rfl | (simp only [List.length_drop, List.length_take]; rfl)) ?_
       with_reducible refine (laws_toFlight.calls kj13 _ _ l0_0 _ _ l0_1 t195 t198 _ ?side1 ?side2 ?side3 ?side4 A33.out).mono ?_
       (case side1 => exact xd ((Kd.C_below HR0_0.out HB.out)))
       (case side2 => exact HC0_0.out)
       (case side3 => exact xd ((Kd.C_below HR0_1.out HB.out)))
       (case side4 => exact HC0_1.out)
       rintro e w37 ⟨v196, v199, rfl, ho0, ho1, hb⟩
       refine ⟨_, rfl, ?_⟩
       have HO197 := Aside0.mk (Kd.R_lower (Kd.R_new' ho0 (Kd.R_lt (xr HO_193000.out))) (below_size (xs HB.out)))
       replace HO_193000 := Aside0.mk (Kd.R_elder' (xr HO_193000.out) (Kd.R_base ho0) hb)
       have HO200 := Aside0.mk (Kd.R_lower (Kd.R_new' ho1 (Kd.R_lt (xr HO_193001.out))) (below_size (xs HB.out)))
       replace HO_193001 := Aside0.mk (Kd.R_elder' (xr HO_193001.out) (Kd.R_base ho1) hb)
       replace BK176 := xk BK176 hb
       replace BK192 := xk BK192 hb
       replace HB := xp HB hb
       (try clear hb)
       (try clear hb2)
       (try clear hk)
       (try clear hi)
       (try clear ho0)
       (try clear ho1)
       obtain ⟨Ao38, co38, eo38⟩ := Kd.R_slice HO197.out
       (first | subst eo38 | (injection eo38 with f1_ f2_ f3_; have f4_ := f1_.symm; have f5_ := f3_.symm; clear f1_ f2_ f3_; subst f4_; subst f5_))
       obtain ⟨Ao39, co39, eo39⟩ := Kd.R_slice HO200.out
       (first | subst eo39 | (injection eo39 with f1_ f2_ f3_; have f4_ := f1_.symm; have f5_ := f3_.symm; clear f1_ f2_ f3_; subst f4_; subst f5_))
       refine hK.out _ _ ⟨(blk_cell BK192.out 0).trans rfl, (blk_cell BK192.out 1).trans rfl, (blk_cell BK176.out 0).trans rfl, (blk_cell BK176.out 1).trans rfl⟩ (fun hHeld => ?_)
       clear hK K
       refine norm_ (a' := ?_) ?_ ?_
       rotate_left
       ·show Act.put _ (some 44) _ = _
        simp only [Act.put, List.setIfInBounds_toArray, List.set_cons_zero, List.set_cons_succ, i64_w, i32_w]
        rfl
       refine one_ (i := 3) (N := some 45) #[true, true, true, true, false] rfl rfl (by kernel_rfl) (by decide) (fun K hK => ?_)
       refine goes_ Tryd.func14 (by kernel_rfl) rfl #[.agg #[.slice Ao26 t186.length co26, .slice Ao29 t189.length co29], .agg #[.slice Ao38 t195.length co38, .slice Ao39 t198.length co39]] (by rfl) rfl rfl (by (try simp only [List.map_toArray, List.map_cons, List.map_nil]); first | done | rfl | (simp only [List.length_drop, List.length_take]; rfl)) ?_
       with_reducible refine (laws_eqFlight.calls kj13 _ _ t186 _ _ t189 _ _ t195 _ _ t198 true _ ?side1 ?side2 ?side3 ?side4 ?side5 ?side6 ?side7 ?side8 A34.out).mono ?_
       (case side1 => exact xd ((Kd.R_reads' HO_193000.out).2.2))
       (case side2 => exact (Kd.R_reads' HO_193000.out).2.1)
       (case side3 => exact xd ((Kd.R_reads' HO_193001.out).2.2))
       (case side4 => exact (Kd.R_reads' HO_193001.out).2.1)
       (case side5 => exact xd ((Kd.R_reads' HO197.out).2.2))
       (case side6 => exact (Kd.R_reads' HO197.out).2.1)
       (case side7 => exact xd ((Kd.R_reads' HO200.out).2.2))
       (case side8 => exact (Kd.R_reads' HO200.out).2.1)
       rintro e w40 ⟨rfl, hb⟩
       refine ⟨_, rfl, ?_⟩
       replace HO_193000 := xq HO_193000 hb
       replace HO_193001 := xq HO_193001 hb
       replace HO197 := xq HO197 hb
       replace HO200 := xq HO200 hb
       replace BK176 := xk BK176 hb
       replace BK192 := xk BK192 hb
       replace HB := xp HB hb
       (try clear hb)
       (try clear hb2)
       (try clear hk)
       (try clear hi)
       refine hK.out _ _ ⟨(blk_cell BK192.out 0).trans rfl, (blk_cell BK192.out 1).trans rfl, (blk_cell BK176.out 0).trans rfl, (blk_cell BK176.out 1).trans rfl⟩ (fun hHeld => ?_)
       clear hK K
       refine norm_ (a' := ?_) ?_ ?_
       rotate_left
       ·show Act.put _ (some 45) _ = _
        simp only [Act.put, List.setIfInBounds_toArray, List.set_cons_zero, List.set_cons_succ, i64_w, i32_w]
        rfl
       refine pure_ (i := 4) (N := some 46) (v := ?_) (a' := ?_) #[true, true, true, true, true] rfl rfl (by kernel_rfl) (fun _ _ _ h => h) (Or.inl ⟨by rfl, ?_⟩) ?_ ?_
       rotate_left
       ·intro w'
        go_simp
        with_reducible rfl
       rotate_left
       ·simp only [Act.put, List.setIfInBounds_toArray, List.set_cons_zero, List.set_cons_succ, i64_w, i32_w]
        rfl
       refine done_ (by kernel_rfl) ?_
       try go_wp2
       go_ret
       exact ⟨by first | rfl | (simp [errW_none, errW_some] <;> rfl) | (simp [*, errW_none, errW_some] <;> rfl), by repeat (first | (with_reducible first | exact HB.out | apply below_alloc | apply pw_below_drewN | apply below_drew1 | refine below_set ?_ GE176.out | refine below_set ?_ GE192.out) | exact HB.out)⟩
      ·replace c35 := Bool.eq_false_iff.mpr c35
       subst c35
       have H1 : (some false) = some true := by first | (rw [if_neg (show ¬ (false = true) by decide)] at H; exact H) | rfl
       clear H
       have H := H1
       clear H1
       exact absurd H (by simp)

end Go.Proofs.YtmedapafllmhjaaDoor.PFnExactWaterUsed

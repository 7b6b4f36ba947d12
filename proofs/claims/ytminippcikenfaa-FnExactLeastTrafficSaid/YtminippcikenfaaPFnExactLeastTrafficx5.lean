/- Lean functions of the Go functions that the law FnExactLeastTraffic reaches, and the proofs that the calls come to what they say (made by program). -/
import Derived.Test.YtminippcikenfaaAb
import Derived.Test.YtminippcikenfaaPFnExactLeastTrafficx0
import Derived.Test.YtminippcikenfaaPFnExactLeastTrafficx1
import Derived.Test.YtminippcikenfaaPFnExactLeastTrafficx2
import Derived.Test.YtminippcikenfaaPFnExactLeastTrafficx4
namespace Go.Proofs.Ytminippcikenfaa.PFnExactLeastTraffic
open Go.RowKit Go.Proofs.YtminippcikenfaaW.PrintWords Go.Proofs.YtminippcikenfaaW.PrintLast Go.Proofs.YtminippcikenfaaW.PrintMore Go.Proofs.Ytminippcikenfaa.Ab
attribute [local go_sem] max2_int min2_int max_two min_two max_three min_three max_four min_four   -- for this text's walks alone
set_option linter.unusedVariables false
set_option linter.unusedSimpArgs false

/-! ### laws_FnExactLeastTraffic: function 9 -/
def laws_FnExactLeastTraffic.j0 : Nat → Bool → List Int → List Bool → List Int → List Bool → Option (Bool)
  | 0, _, _, _, _, _ => none
  | k + 1, x42, x161000, x161001, x177000, x177001 => if x42 = true then (some false) else ((laws_toFlight.f k x161000 x161001).bind fun bt179 => ((laws_eqFlight.f k x177000 x177001 bt179.1 bt179.2).bind fun t185 => (if t185 = true then (some true) else (some false))))
def laws_FnExactLeastTraffic.f (k : Nat) (l0_0 : List Int) (l0_1 : List Bool) (a1 : Int) (a2 : Int) : Option (Bool) := (laws_szFlight.f l0_0 l0_1 1048576).bind fun t161 => (if t161 < 0 then (some true) else ((laws_toFlight.f k l0_0 l0_1).bind fun bt162 => ((spec_LeastTraffic.f k bt162.1 bt162.2 a1 a2).bind fun bt168 => ((laws_toFlight.f k l0_0 l0_1).bind fun bt170 => ((impl_LeastTraffic.f bt170.1 bt170.2 a1 a2).bind fun bt177 => (if bt177.1.toList = bt168.1.toList then (laws_FnExactLeastTraffic.j0 k (bt177.2 != bt168.2) l0_0 l0_1 bt170.1 bt170.2) else (laws_FnExactLeastTraffic.j0 k true l0_0 l0_1 bt170.1 bt170.2)))))))
theorem laws_FnExactLeastTraffic.mono_l : ∀ k, (∀ y0 y1 y2 y3 y4, LeO (laws_FnExactLeastTraffic.j0 k y0 y1 y2 y3 y4) (laws_FnExactLeastTraffic.j0 (k + 1) y0 y1 y2 y3 y4))
 | 0 => fun _ _ _ _ _ r h => by simp [laws_FnExactLeastTraffic.j0] at h
 | k + 1 => by
  have ih0 := laws_FnExactLeastTraffic.mono_l k
  ·intro y0 y1 y2 y3 y4
   unfold laws_FnExactLeastTraffic.j0
   repeat' first
   | (with_reducible exact ih0 _ _ _ _ _)
   | (with_reducible exact laws_eqFlight.mono _ _ _ _ _)
   | (with_reducible exact laws_toFlight.mono _ _ _)
   | (with_reducible exact spec_LeastTraffic.mono _ _ _ _ _)
   | (with_reducible exact LeO.refl _)
   | (with_reducible exact LeO.none _)
   | (with_reducible refine LeO.ite ?_ ?_)
   | (with_reducible refine LeO.bind ?_ (fun _ => ?_))
   | exact ih0 _ _ _ _ _
   | exact laws_eqFlight.mono _ _ _ _ _
   | exact laws_toFlight.mono _ _ _
   | exact spec_LeastTraffic.mono _ _ _ _ _
   | exact LeO.none _
   | refine LeO.ite ?_ ?_
   | refine LeO.bind ?_ (fun _ => ?_)
theorem laws_FnExactLeastTraffic.mono : ∀ a0 a1 a2 a3 k, LeO (laws_FnExactLeastTraffic.f k a0 a1 a2 a3) (laws_FnExactLeastTraffic.f (k + 1) a0 a1 a2 a3) := by
 intro a0 a1 a2 a3 k
 have ih0 := laws_FnExactLeastTraffic.mono_l k
 unfold laws_FnExactLeastTraffic.f
 repeat' first
   | (with_reducible exact ih0 _ _ _ _ _)
   | (with_reducible exact laws_eqFlight.mono _ _ _ _ _)
   | (with_reducible exact laws_toFlight.mono _ _ _)
   | (with_reducible exact spec_LeastTraffic.mono _ _ _ _ _)
   | (with_reducible exact LeO.refl _)
   | (with_reducible exact LeO.none _)
   | (with_reducible refine LeO.ite ?_ ?_)
   | (with_reducible refine LeO.bind ?_ (fun _ => ?_))
   | exact ih0 _ _ _ _ _
   | exact laws_eqFlight.mono _ _ _ _ _
   | exact laws_toFlight.mono _ _ _
   | exact spec_LeastTraffic.mono _ _ _ _ _
   | exact LeO.none _
   | refine LeO.ite ?_ ?_
   | refine LeO.bind ?_ (fun _ => ?_)
set_option maxHeartbeats 8000000 in
set_option maxRecDepth 100000 in
theorem laws_FnExactLeastTraffic.calls (k : Nat) (A0_0 : Option Addr) (c0_0 : Nat) (l0_0 : List Int) (A0_1 : Option Addr) (c0_1 : Nat) (l0_1 : List Bool) (a1 : Int) (a2 : Int) (w : World) (hr0_0 : Kd.C (Kd.int .i64) w A0_0 l0_0.length l0_0) (hc0_0 : l0_0.length ≤ c0_0) (hr0_1 : Kd.C Kd.bool w A0_1 l0_1.length l0_1) (hc0_1 : l0_1.length ≤ c0_1) (h : laws_FnExactLeastTraffic.f k l0_0 l0_1 a1 a2 = some true) :
  Calls Try.prog 9 #[.agg #[.slice A0_0 l0_0.length c0_0, .slice A0_1 l0_1.length c0_1], .int .i64 a1, .int .i64 a2] w fun e w' => e = .returned (.bool true) ∧ Below w.heap.size w w' := by
 have hu58 := Try.underlying58
 have hu61 := Try.underlying61
 have HR0_0 := Aside0.mk hr0_0
 have HC0_0 := Aside0.mk hc0_0
 clear hr0_0 hc0_0
 have HR0_1 := Aside0.mk hr0_1
 have HC0_1 := Aside0.mk hc0_1
 clear hr0_1 hc0_1
 have HB := Aside0.mk (Below.refl w.heap.size w)
 have H : ((laws_szFlight.f l0_0 l0_1 1048576).bind fun t161 => (if t161 < 0 then (some true) else ((laws_toFlight.f k l0_0 l0_1).bind fun bt162 => ((spec_LeastTraffic.f k bt162.1 bt162.2 a1 a2).bind fun bt168 => ((laws_toFlight.f k l0_0 l0_1).bind fun bt170 => ((impl_LeastTraffic.f bt170.1 bt170.2 a1 a2).bind fun bt177 => (if bt177.1.toList = bt168.1.toList then (laws_FnExactLeastTraffic.j0 k (bt177.2 != bt168.2) l0_0 l0_1 bt170.1 bt170.2) else (laws_FnExactLeastTraffic.j0 k true l0_0 l0_1 bt170.1 bt170.2)))))))) = some true := h
 clear h
 replace H := Option.bind_eq_some_iff.mp H
 obtain ⟨t161, A40, H⟩ := H
 replace H : (if t161 < 0 then (some true) else ((laws_toFlight.f k l0_0 l0_1).bind fun bt162 => ((spec_LeastTraffic.f k bt162.1 bt162.2 a1 a2).bind fun bt168 => ((laws_toFlight.f k l0_0 l0_1).bind fun bt170 => ((impl_LeastTraffic.f bt170.1 bt170.2 a1 a2).bind fun bt177 => (if bt177.1.toList = bt168.1.toList then (laws_FnExactLeastTraffic.j0 k (bt177.2 != bt168.2) l0_0 l0_1 bt170.1 bt170.2) else (laws_FnExactLeastTraffic.j0 k true l0_0 l0_1 bt170.1 bt170.2))))))) = some true := H
 have A4 := Aside0.mk A40
 clear A40
 by_cases c5 : t161 < 0
 ·rw [if_pos c5] at H
  have c5b0 : decide (t161 < 0) = true := decide_eq_true c5
  clear c5
  clear H
  go_enter Try.func9, Try.ntmps9
  go_wp2_with (first | ((with_reducible refine gate_dst (N := 3) rfl ?_); refine box_event ?hg (N := 3) ?hd (cs := #[.slice A0_0 l0_0.length c0_0, .slice A0_1 l0_1.length c0_1]) (t := 58) ?hr ?_; (case hd => rfl); (case hg => rfl); (case hr => first | (go_simp; done) | (go_simp; rfl)); intro gb160 hg w6 hbox hb; have BK160 := Aside0.mk (hbox); have GW160 := xg HB hg; have GE160 := xg HB hg; replace HB := xp HB hb; clear hb hbox hg; have hcz7_0 : w6.cell? ⟨gb160, 0, none⟩ = some (.slice A0_0 l0_0.length c0_0) := (blk_cell BK160.out 0).trans rfl; have hcz7_1 : w6.cell? ⟨gb160, 1, none⟩ = some (.slice A0_1 l0_1.length c0_1) := (blk_cell BK160.out 1).trans rfl; have hfz7_0 := blk_frozen BK160.out 0; have hfz7_1 := blk_frozen BK160.out 1) | ((with_reducible refine gate_callee (f := 35) rfl ?_); refine goesL_ (some 15) rfl rfl Try.func35 (by kernel_rfl) rfl #[.agg #[.slice A0_0 l0_0.length c0_0, .slice A0_1 l0_1.length c0_1], .int .i64 1048576] rfl (by (try simp only [List.map_toArray, List.map_cons, List.map_nil]); first | done | rfl | (simp only [List.length_drop, List.length_take]; rfl)) ?_; (with_reducible refine (laws_szFlight.calls _ _ l0_0 _ _ l0_1 1048576 t161 _ ?side1 ?side2 ?side3 ?side4 A4.out).mono ?_); (case side1 => exact xd ((Kd.C_below HR0_0.out HB.out))); (case side2 => exact HC0_0.out); (case side3 => exact xd ((Kd.C_below HR0_1.out HB.out))); (case side4 => exact HC0_1.out); rintro e w8 ⟨rfl, hb⟩; refine ⟨_, rfl, ?_⟩; replace BK160 := xk BK160 hb; replace HB := xp HB hb; (try clear hb); (try clear hb2); (try clear hk); (try clear hi)))
  go_ret
  exact ⟨by first | rfl | (simp [errW_none, errW_some] <;> rfl) | (simp [*, errW_none, errW_some] <;> rfl), by repeat (first | (with_reducible first | exact HB.out | apply below_alloc | apply pw_below_drewN | apply below_drew1 | refine below_set ?_ GE160.out) | exact HB.out)⟩
 ·rw [if_neg c5] at H
  have c5b0 : decide (t161 < 0) = false := decide_eq_false c5
  clear c5
  replace H := Option.bind_eq_some_iff.mp H
  obtain ⟨⟨t162, t165⟩, A90, H⟩ := H
  replace H : ((spec_LeastTraffic.f k t162 t165 a1 a2).bind fun bt168 => ((laws_toFlight.f k l0_0 l0_1).bind fun bt170 => ((impl_LeastTraffic.f bt170.1 bt170.2 a1 a2).bind fun bt177 => (if bt177.1.toList = bt168.1.toList then (laws_FnExactLeastTraffic.j0 k (bt177.2 != bt168.2) l0_0 l0_1 bt170.1 bt170.2) else (laws_FnExactLeastTraffic.j0 k true l0_0 l0_1 bt170.1 bt170.2))))) = some true := H
  have A9 := Aside0.mk A90
  clear A90
  replace H := Option.bind_eq_some_iff.mp H
  obtain ⟨⟨t168, t169⟩, A100, H⟩ := H
  replace H : ((laws_toFlight.f k l0_0 l0_1).bind fun bt170 => ((impl_LeastTraffic.f bt170.1 bt170.2 a1 a2).bind fun bt177 => (if bt177.1.toList = t168.toList then (laws_FnExactLeastTraffic.j0 k (bt177.2 != t169) l0_0 l0_1 bt170.1 bt170.2) else (laws_FnExactLeastTraffic.j0 k true l0_0 l0_1 bt170.1 bt170.2)))) = some true := H
  have A10 := Aside0.mk A100
  clear A100
  replace H := Option.bind_eq_some_iff.mp H
  obtain ⟨⟨t170, t173⟩, A110, H⟩ := H
  replace H : ((impl_LeastTraffic.f t170 t173 a1 a2).bind fun bt177 => (if bt177.1.toList = t168.toList then (laws_FnExactLeastTraffic.j0 k (bt177.2 != t169) l0_0 l0_1 t170 t173) else (laws_FnExactLeastTraffic.j0 k true l0_0 l0_1 t170 t173))) = some true := H
  have A11 := Aside0.mk A110
  clear A110
  replace H := Option.bind_eq_some_iff.mp H
  obtain ⟨⟨t177, t178⟩, A120, H⟩ := H
  replace H : (if t177.toList = t168.toList then (laws_FnExactLeastTraffic.j0 k (t178 != t169) l0_0 l0_1 t170 t173) else (laws_FnExactLeastTraffic.j0 k true l0_0 l0_1 t170 t173)) = some true := H
  have A12 := Aside0.mk A120
  clear A120
  have HC13 := Aside0.mk H
  clear H
  go_enter Try.func9, Try.ntmps9
  go_upto_region 8 with (first | ((with_reducible refine gate_dst (N := 3) rfl ?_); refine box_event ?hg (N := 3) ?hd (cs := #[.slice A0_0 l0_0.length c0_0, .slice A0_1 l0_1.length c0_1]) (t := 58) ?hr ?_; (case hd => rfl); (case hg => rfl); (case hr => first | (go_simp; done) | (go_simp; rfl)); intro gb160 hg w14 hbox hb; have BK160 := Aside0.mk (hbox); have GW160 := xg HB hg; have GE160 := xg HB hg; replace HB := xp HB hb; clear hb hbox hg; have hcz15_0 : w14.cell? ⟨gb160, 0, none⟩ = some (.slice A0_0 l0_0.length c0_0) := (blk_cell BK160.out 0).trans rfl; have hcz15_1 : w14.cell? ⟨gb160, 1, none⟩ = some (.slice A0_1 l0_1.length c0_1) := (blk_cell BK160.out 1).trans rfl; have hfz15_0 := blk_frozen BK160.out 0; have hfz15_1 := blk_frozen BK160.out 1) | ((with_reducible refine gate_callee (f := 35) rfl ?_); refine goesL_ (some 15) rfl rfl Try.func35 (by kernel_rfl) rfl #[.agg #[.slice A0_0 l0_0.length c0_0, .slice A0_1 l0_1.length c0_1], .int .i64 1048576] rfl (by (try simp only [List.map_toArray, List.map_cons, List.map_nil]); first | done | rfl | (simp only [List.length_drop, List.length_take]; rfl)) ?_; (with_reducible refine (laws_szFlight.calls _ _ l0_0 _ _ l0_1 1048576 t161 _ ?side1 ?side2 ?side3 ?side4 A4.out).mono ?_); (case side1 => exact xd ((Kd.C_below HR0_0.out HB.out))); (case side2 => exact HC0_0.out); (case side3 => exact xd ((Kd.C_below HR0_1.out HB.out))); (case side4 => exact HC0_1.out); rintro e w16 ⟨rfl, hb⟩; refine ⟨_, rfl, ?_⟩; replace BK160 := xk BK160 hb; replace HB := xp HB hb; (try clear hb); (try clear hb2); (try clear hk); (try clear hi); have hcz17_0 : w16.cell? ⟨gb160, 0, none⟩ = some (.slice A0_0 l0_0.length c0_0) := (blk_cell BK160.out 0).trans rfl; have hcz17_1 : w16.cell? ⟨gb160, 1, none⟩ = some (.slice A0_1 l0_1.length c0_1) := (blk_cell BK160.out 1).trans rfl; have hfz17_0 := blk_frozen BK160.out 0; have hfz17_1 := blk_frozen BK160.out 1) | ((with_reducible refine gate_callee (f := 37) rfl ?_); refine goesL_ (some 20) rfl rfl Try.func37 (by kernel_rfl) rfl #[.agg #[.slice A0_0 l0_0.length c0_0, .slice A0_1 l0_1.length c0_1]] rfl (by (try simp only [List.map_toArray, List.map_cons, List.map_nil]); first | done | rfl | (simp only [List.length_drop, List.length_take]; rfl)) ?_; (with_reducible refine (laws_toFlight.calls k _ _ l0_0 _ _ l0_1 t162 t165 _ ?side1 ?side2 ?side3 ?side4 A9.out).mono ?_); (case side1 => exact xd ((Kd.C_below HR0_0.out HB.out))); (case side2 => exact HC0_0.out); (case side3 => exact xd ((Kd.C_below HR0_1.out HB.out))); (case side4 => exact HC0_1.out); rintro e w18 ⟨v163, v166, rfl, ho0, ho1, hb⟩; refine ⟨_, rfl, ?_⟩; have HO164 := Aside0.mk (Kd.R_lower ho0 (below_size (xs HB.out))); have HO167 := Aside0.mk (Kd.R_lower ho1 (below_size (xs HB.out))); replace BK160 := xk BK160 hb; replace HB := xp HB hb; (try clear hb); (try clear hb2); (try clear hk); (try clear hi); (try clear ho0); (try clear ho1); obtain ⟨Ao19, co19, eo19⟩ := Kd.R_slice HO164.out; subst eo19; obtain ⟨Ao20, co20, eo20⟩ := Kd.R_slice HO167.out; subst eo20) | ((with_reducible refine gate_callee (f := 42) rfl ?_); refine goesL_ (some 23) rfl rfl Try.func42 (by kernel_rfl) rfl #[.agg #[.slice Ao19 t162.length co19, .slice Ao20 t165.length co20], .int .i64 a1, .int .i64 a2] rfl (by (try simp only [List.map_toArray, List.map_cons, List.map_nil]); first | done | rfl | (simp only [List.length_drop, List.length_take]; rfl)) ?_; (with_reducible refine (spec_LeastTraffic.calls k _ _ t162 _ _ t165 a1 a2 t168 t169 _ ?side1 ?side2 ?side3 ?side4 A10.out).mono ?_); (case side1 => exact xd ((Kd.R_reads' HO164.out).2.2)); (case side2 => exact (Kd.R_reads' HO164.out).2.1); (case side3 => exact xd ((Kd.R_reads' HO167.out).2.2)); (case side4 => exact (Kd.R_reads' HO167.out).2.1); rintro e w21 ⟨rfl, hb⟩; refine ⟨_, rfl, ?_⟩; replace HO164 := xq HO164 hb; replace HO167 := xq HO167 hb; replace BK160 := xk BK160 hb; replace HB := xp HB hb; (try clear hb); (try clear hb2); (try clear hk); (try clear hi); have hcz22_0 : w21.cell? ⟨gb160, 0, none⟩ = some (.slice A0_0 l0_0.length c0_0) := (blk_cell BK160.out 0).trans rfl; have hcz22_1 : w21.cell? ⟨gb160, 1, none⟩ = some (.slice A0_1 l0_1.length c0_1) := (blk_cell BK160.out 1).trans rfl; have hfz22_0 := blk_frozen BK160.out 0; have hfz22_1 := blk_frozen BK160.out 1) | ((with_reducible refine gate_callee (f := 37) rfl ?_); refine goesL_ (some 27) rfl rfl Try.func37 (by kernel_rfl) rfl #[.agg #[.slice A0_0 l0_0.length c0_0, .slice A0_1 l0_1.length c0_1]] rfl (by (try simp only [List.map_toArray, List.map_cons, List.map_nil]); first | done | rfl | (simp only [List.length_drop, List.length_take]; rfl)) ?_; (with_reducible refine (laws_toFlight.calls k _ _ l0_0 _ _ l0_1 t170 t173 _ ?side1 ?side2 ?side3 ?side4 A11.out).mono ?_); (case side1 => exact xd ((Kd.C_below HR0_0.out HB.out))); (case side2 => exact HC0_0.out); (case side3 => exact xd ((Kd.C_below HR0_1.out HB.out))); (case side4 => exact HC0_1.out); rintro e w23 ⟨v171, v174, rfl, ho0, ho1, hb⟩; refine ⟨_, rfl, ?_⟩; have HO172 := Aside0.mk (Kd.R_lower (Kd.R_new' ho0 (Kd.R_lt (xr HO164.out))) (below_size (xs HB.out))); replace HO164 := Aside0.mk (Kd.R_elder' (xr HO164.out) (Kd.R_base ho0) hb); have HO175 := Aside0.mk (Kd.R_lower (Kd.R_new' ho1 (Kd.R_lt (xr HO167.out))) (below_size (xs HB.out))); replace HO167 := Aside0.mk (Kd.R_elder' (xr HO167.out) (Kd.R_base ho1) hb); replace BK160 := xk BK160 hb; replace HB := xp HB hb; (try clear hb); (try clear hb2); (try clear hk); (try clear hi); (try clear ho0); (try clear ho1)) | ((with_reducible refine gate_dst (N := 10) rfl ?_); refine box_event ?hg (N := 10) ?hd (cs := #[.slice none 0 0, .slice none 0 0]) (t := 61) ?hr ?_; (case hd => rfl); (case hg => rfl); (case hr => first | (go_simp; done) | (go_simp; rfl)); intro gb176 hg w24 hbox hb; replace HO164 := xq HO164 hb; replace HO167 := xq HO167 hb; replace HO172 := xq HO172 hb; replace HO175 := xq HO175 hb; have BK176 := Aside0.mk (hbox); have GW176 := xg HB hg; have GE176 := xg HB hg; replace HB := xp HB hb; have NB160_176 := xl BK160 hg; have NB176_160 := xh BK160 hg; replace BK160 := xk BK160 hb; clear hb hbox hg; obtain ⟨Ao25, co25, eo25⟩ := Kd.R_slice HO172.out; subst eo25; have hnb26 := NB176_160.out; have hnc26 := NB160_176.out; have hcz27_0 : w24.cell? ⟨gb176, 0, none⟩ = some (.slice none 0 0) := (blk_cell BK176.out 0).trans rfl; have hcz27_1 : w24.cell? ⟨gb176, 1, none⟩ = some (.slice none 0 0) := (blk_cell BK176.out 1).trans rfl; have hfz27_0 := blk_frozen BK176.out 0; have hfz27_1 := blk_frozen BK176.out 1; obtain ⟨Ao28, co28, eo28⟩ := Kd.R_slice HO175.out; subst eo28) | ((with_reducible refine gate_callee (f := 43) rfl ?_); refine goesL_ (some 32) rfl rfl Try.func43 (by kernel_rfl) rfl #[.agg #[.slice Ao25 t170.length co25, .slice Ao28 t173.length co28], .int .i64 a1, .int .i64 a2] rfl (by (try simp only [List.map_toArray, List.map_cons, List.map_nil]); first | done | rfl | (simp only [List.length_drop, List.length_take]; rfl)) ?_; (with_reducible refine (impl_LeastTraffic.calls _ _ t170 _ _ t173 a1 a2 t177 t178 _ ?side1 ?side2 ?side3 ?side4 A12.out).mono ?_); (case side1 => refine (Kd.R_reads' (e := 3) (base := w.heap.size) (ok := fun k_ => (True ∧ nS k_ Ao19 t162.length co19)) (n := t170.length) (c := co25) ?_).2.2; exact (by (with_reducible repeat (first | apply Kd.R_alloc | apply Kd.R_drewN | apply Kd.R_drew)); exact (Kd.R_mono (Kd.R_far (p := ⟨gb176, 1, none⟩) (Kd.R_far (p := ⟨gb176, 0, none⟩) (Kd.R_types HO172.out BK176.out (by decide)) (fun _ hk => hk.2) (.slice Ao25 t170.length co25)) (fun _ hk => hk.2) (.slice Ao28 t173.length co28)) (fun _ h_ => h_.1)))); (case side2 => exact (Kd.R_reads' HO172.out).2.1); (case side3 => refine (Kd.R_reads' (e := 4) (base := w.heap.size) (ok := fun k_ => (True ∧ nS k_ Ao20 t165.length co20)) (n := t173.length) (c := co28) ?_).2.2; exact (by (with_reducible repeat (first | apply Kd.R_alloc | apply Kd.R_drewN | apply Kd.R_drew)); exact (Kd.R_mono (Kd.R_far (p := ⟨gb176, 1, none⟩) (Kd.R_far (p := ⟨gb176, 0, none⟩) (Kd.R_types HO175.out BK176.out (by decide)) (fun _ hk => hk.2) (.slice Ao25 t170.length co25)) (fun _ hk => hk.2) (.slice Ao28 t173.length co28)) (fun _ h_ => h_.1)))); (case side4 => exact (Kd.R_reads' HO175.out).2.1); rintro e w29 ⟨rfl, hb⟩; refine ⟨_, rfl, ?_⟩; replace HO164 := Aside0.mk (Kd.R_below (by (with_reducible repeat (first | apply Kd.R_alloc | apply Kd.R_drewN | apply Kd.R_drew)); exact (Kd.R_mono (Kd.R_far (p := ⟨gb176, 1, none⟩) (Kd.R_far (p := ⟨gb176, 0, none⟩) (Kd.R_types HO164.out BK176.out (by decide)) (fun _ hk => hk.2) (.slice Ao25 t170.length co25)) (fun _ hk => hk.2) (.slice Ao28 t173.length co28)) (fun _ h_ => h_.1))) hb); replace HO167 := Aside0.mk (Kd.R_below (by (with_reducible repeat (first | apply Kd.R_alloc | apply Kd.R_drewN | apply Kd.R_drew)); exact (Kd.R_mono (Kd.R_far (p := ⟨gb176, 1, none⟩) (Kd.R_far (p := ⟨gb176, 0, none⟩) (Kd.R_types HO167.out BK176.out (by decide)) (fun _ hk => hk.2) (.slice Ao25 t170.length co25)) (fun _ hk => hk.2) (.slice Ao28 t173.length co28)) (fun _ h_ => h_.1))) hb); replace HO172 := Aside0.mk (Kd.R_below (by (with_reducible repeat (first | apply Kd.R_alloc | apply Kd.R_drewN | apply Kd.R_drew)); exact (Kd.R_mono (Kd.R_far (p := ⟨gb176, 1, none⟩) (Kd.R_far (p := ⟨gb176, 0, none⟩) (Kd.R_types HO172.out BK176.out (by decide)) (fun _ hk => hk.2) (.slice Ao25 t170.length co25)) (fun _ hk => hk.2) (.slice Ao28 t173.length co28)) (fun _ h_ => h_.1))) hb); replace HO175 := Aside0.mk (Kd.R_below (by (with_reducible repeat (first | apply Kd.R_alloc | apply Kd.R_drewN | apply Kd.R_drew)); exact (Kd.R_mono (Kd.R_far (p := ⟨gb176, 1, none⟩) (Kd.R_far (p := ⟨gb176, 0, none⟩) (Kd.R_types HO175.out BK176.out (by decide)) (fun _ hk => hk.2) (.slice Ao25 t170.length co25)) (fun _ hk => hk.2) (.slice Ao28 t173.length co28)) (fun _ h_ => h_.1))) hb); replace BK160 := Aside0.mk (blk_below (g := gb160) (o := .cells #[.slice A0_0 l0_0.length c0_0, .slice A0_1 l0_1.length c0_1] 58 (0, 0)) (xff NB160_176.out NB160_176.out BK160.out) hb); replace BK176 := Aside0.mk (blk_below (g := gb176) (o := .cells #[.slice Ao25 t170.length co25, .slice Ao28 t173.length co28] 61 (0, 0)) (by (with_reducible repeat (first | refine blk_drewN ?_ _ | refine blk_drew ?_ | refine blk_alloc ?_ _)); refine blk_put (cs := #[.slice Ao25 t170.length co25, .slice none 0 0]) ?_ 1 _ rfl; (with_reducible repeat (first | refine blk_drewN ?_ _ | refine blk_drew ?_ | refine blk_alloc ?_ _)); refine blk_put (cs := #[.slice none 0 0, .slice none 0 0]) ?_ 0 _ rfl; (with_reducible repeat (first | refine blk_drewN ?_ _ | refine blk_drew ?_ | refine blk_alloc ?_ _)); exact BK176.out) hb); replace HB := xp HB hb; (try clear hb); (try clear hb2); (try clear hk); (try clear hi)))
  (try simp only [Act.put, List.setIfInBounds_toArray, List.set_cons_zero, List.set_cons_succ])
  go_cut [42] (fun v42 wc => ∃ (kq : Nat) (x42_12 : Bool), v42 = .bool x42_12 ∧ Aside0 (laws_FnExactLeastTraffic.j0 kq x42_12 l0_0 l0_1 t170 t173 = some true) ∧ Aside0 (kq ≤ k) ∧ Aside0 (Kd.R (Kd.int .i64) 3 wc w.heap.size (fun _ => True) (.slice Ao25 t170.length co25) t170) ∧ Aside0 (Kd.R Kd.bool 4 wc w.heap.size (fun _ => True) (.slice Ao28 t173.length co28) t173) ∧ Aside0 (wc.heap[gb160]? = some (.cells #[(.slice A0_0 l0_0.length c0_0), (.slice A0_1 l0_1.length c0_1)] 58 (0, 0))) ∧ Aside0 (wc.heap[gb176]? = some (.cells #[(.slice Ao25 t170.length co25), (.slice Ao28 t173.length co28)] 61 (0, 0))) ∧ Aside0 (Below w.heap.size w wc))
  case first =>
   have H := HC13.out
   clear HC13
   by_cases c30 : t177.toList = t168.toList
   ·rw [if_pos c30] at H
    have c30b0 : (t177.toList == t168.toList) = true := beq_iff_eq.mpr c30
    have c30b1 : (t177.toList != t168.toList) = false := bne_eq_false_iff_eq.mpr c30
    clear c30
    (first | rw [c30b0] | (simp only [i64_w, i32_w]; rw [c30b0]) | skip)
    have H' := Aside0.mk H
    clear H
    go_wp2
    go_meet
    case rel => exact ⟨_, ((t178 != t169)), (by first | rfl | (simp; done) | (simp [*]; done)), H', ⟨by first | omega | exact Nat.le_refl _⟩, ⟨xm HO172 (fun _ hk => trivial)⟩, ⟨xm HO175 (fun _ hk => trivial)⟩, ⟨xb BK160.out⟩, ⟨xb BK176.out⟩, ⟨xs HB.out⟩⟩
   ·rw [if_neg c30] at H
    have c30b0 : (t177.toList == t168.toList) = false := beq_eq_false_iff_ne.mpr c30
    have c30b1 : (t177.toList != t168.toList) = true := bne_iff_ne.mpr c30
    (first | rw [c30b0] | (simp only [i64_w, i32_w]; rw [c30b0]) | skip)
    have H' := Aside0.mk H
    clear H
    go_wp2
    go_meet
    case rel => exact ⟨_, (true), (by first | rfl | (simp; done) | (simp [*]; done)), H', ⟨by first | omega | exact Nat.le_refl _⟩, ⟨xm HO172 (fun _ hk => trivial)⟩, ⟨xm HO175 (fun _ hk => trivial)⟩, ⟨xb BK160.out⟩, ⟨xb BK176.out⟩, ⟨xs HB.out⟩⟩
  case rest =>
   clear HC13
   try clear c2
   try clear p2
   try clear c3
   try clear c4
   try clear c5
   try clear c5b0
   try clear c9
   try clear c26
   try clear c30
   try clear c30b0
   try clear c30b1
   try clear hcz15_0
   try clear hcz15_1
   try clear hcz17_0
   try clear hcz17_1
   try clear hcz22_0
   try clear hcz22_1
   try clear hcz27_0
   try clear hcz27_1
   try clear hcz7_0
   try clear hcz7_1
   try clear hfz15_0
   try clear hfz15_1
   try clear hfz17_0
   try clear hfz17_1
   try clear hfz22_0
   try clear hfz22_1
   try clear hfz27_0
   try clear hfz27_1
   try clear hfz7_0
   try clear hfz7_1
   obtain ⟨kq, x42_12, rfl, HA, HJ12, HO_177000, HO_177001, BK160, BK176, HB⟩ := hcut
   cases kq with
   | zero => exact absurd HA.out (by simp [laws_FnExactLeastTraffic.j0])
   | succ kj12 =>
    have H := HA.out
    clear HA
    simp only [laws_FnExactLeastTraffic.j0] at H
    by_cases c31 : x42_12 = true
    ·subst c31
     have H1 : (some false) = some true := by first | (rw [if_pos rfl] at H; exact H) | rfl
     clear H
     have H := H1
     clear H1
     exact absurd H (by simp)
    ·replace c31 := Bool.eq_false_iff.mpr c31
     subst c31
     have H1 : ((laws_toFlight.f kj12 l0_0 l0_1).bind fun bt179 => ((laws_eqFlight.f kj12 t170 t173 bt179.1 bt179.2).bind fun t185 => (if t185 = true then (some true) else (some false)))) = some true := by first | (rw [if_neg (show ¬ (false = true) by decide)] at H; exact H) | rfl
     clear H
     have H := H1
     clear H1
     replace H := Option.bind_eq_some_iff.mp H
     obtain ⟨⟨t179, t182⟩, A320, H⟩ := H
     replace H : ((laws_eqFlight.f kj12 t170 t173 t179 t182).bind fun t185 => (if t185 = true then (some true) else (some false))) = some true := H
     have A32 := Aside0.mk A320
     clear A320
     replace H := Option.bind_eq_some_iff.mp H
     obtain ⟨t185, A330, H⟩ := H
     replace H : (if t185 = true then (some true) else (some false)) = some true := H
     have A33 := Aside0.mk A330
     clear A330
     by_cases c34 : t185 = true
     ·subst c34
      have H1 : (some true) = some true := by first | (rw [if_pos rfl] at H; exact H) | rfl
      clear H
      have H := H1
      clear H1
      clear H
      try go_wp2
      replace HO_177000 := xw HO_177000
      replace HO_177001 := xw HO_177001
      replace BK160 := xv BK160
      replace BK176 := xv BK176
      replace HB := Aside0.mk (below_drew1 HB.out)
      refine start_ (n := 5) (S := fun w' => w'.cell? ⟨gb176, 0, none⟩ = some (.slice Ao25 t170.length co25) ∧ w'.cell? ⟨gb176, 1, none⟩ = some (.slice Ao28 t173.length co28) ∧ w'.cell? ⟨gb160, 0, none⟩ = some (.slice A0_0 l0_0.length c0_0) ∧ w'.cell? ⟨gb160, 1, none⟩ = some (.slice A0_1 l0_1.length c0_1)) (ds := []) #[false, false, false, false, false] (by kernel_rfl) rfl rfl ⟨(blk_cell BK176.out 0).trans rfl, (blk_cell BK176.out 1).trans rfl, (blk_cell BK160.out 0).trans rfl, (blk_cell BK160.out 1).trans rfl⟩ (fun hHeld => ?_)
      generalize wc.drew = w35 at HO_177000 HO_177001 BK160 BK176 HB hHeld ⊢
      refine take_ (i := 0) (N := some 43) (v := ?_) (a' := ?_) #[true, false, false, false, false] rfl rfl (by kernel_rfl) (fun _ _ _ h => h) (Or.inl ⟨by rfl, ?_⟩) hHeld ?_ ?_
      rotate_left
      ·rintro w' ⟨s0, s1, s2, s3⟩
       go_simp
       with_reducible rfl
      rotate_left
      ·simp only [Act.put, List.setIfInBounds_toArray, List.set_cons_zero, List.set_cons_succ, i64_w, i32_w]
       rfl
      refine take_ (i := 1) (N := some 44) (v := ?_) (a' := ?_) #[true, true, false, false, false] rfl rfl (by kernel_rfl) (fun _ _ _ h => h) (Or.inl ⟨by rfl, ?_⟩) hHeld ?_ ?_
      rotate_left
      ·rintro w' ⟨s0, s1, s2, s3⟩
       go_simp
       with_reducible rfl
      rotate_left
      ·simp only [Act.put, List.setIfInBounds_toArray, List.set_cons_zero, List.set_cons_succ, i64_w, i32_w]
       rfl
      refine one_ (i := 2) (N := some 45) #[true, true, true, false, false] rfl rfl (by kernel_rfl) (by decide) (fun K hK => ?_)
      refine goes_ Try.func37 (by kernel_rfl) rfl #[.agg #[.slice A0_0 l0_0.length c0_0, .slice A0_1 l0_1.length c0_1]] (by rfl) rfl rfl (by (try simp only [List.map_toArray, List.map_cons, List.map_nil]); first | done | rfl | (simp only [List.length_drop, List.length_take]; rfl)) ?_
      with_reducible refine (laws_toFlight.calls kj12 _ _ l0_0 _ _ l0_1 t179 t182 _ ?side1 ?side2 ?side3 ?side4 A32.out).mono ?_
      (case side1 => exact xd ((Kd.C_below HR0_0.out HB.out)))
      (case side2 => exact HC0_0.out)
      (case side3 => exact xd ((Kd.C_below HR0_1.out HB.out)))
      (case side4 => exact HC0_1.out)
      rintro e w36 ⟨v180, v183, rfl, ho0, ho1, hb⟩
      refine ⟨_, rfl, ?_⟩
      have HO181 := Aside0.mk (Kd.R_lower (Kd.R_new' ho0 (Kd.R_lt (xr HO_177000.out))) (below_size (xs HB.out)))
      replace HO_177000 := Aside0.mk (Kd.R_elder' (xr HO_177000.out) (Kd.R_base ho0) hb)
      have HO184 := Aside0.mk (Kd.R_lower (Kd.R_new' ho1 (Kd.R_lt (xr HO_177001.out))) (below_size (xs HB.out)))
      replace HO_177001 := Aside0.mk (Kd.R_elder' (xr HO_177001.out) (Kd.R_base ho1) hb)
      replace BK160 := xk BK160 hb
      replace BK176 := xk BK176 hb
      replace HB := xp HB hb
      (try clear hb)
      (try clear hb2)
      (try clear hk)
      (try clear hi)
      (try clear ho0)
      (try clear ho1)
      obtain ⟨Ao37, co37, eo37⟩ := Kd.R_slice HO181.out
      (first | subst eo37 | (injection eo37 with f1_ f2_ f3_; have f4_ := f1_.symm; have f5_ := f3_.symm; clear f1_ f2_ f3_; subst f4_; subst f5_))
      obtain ⟨Ao38, co38, eo38⟩ := Kd.R_slice HO184.out
      (first | subst eo38 | (injection eo38 with f1_ f2_ f3_; have f4_ := f1_.symm; have f5_ := f3_.symm; clear f1_ f2_ f3_; subst f4_; subst f5_))
      refine hK.out _ _ ⟨(blk_cell BK176.out 0).trans rfl, (blk_cell BK176.out 1).trans rfl, (blk_cell BK160.out 0).trans rfl, (blk_cell BK160.out 1).trans rfl⟩ (fun hHeld => ?_)
      clear hK K
      refine norm_ (a' := ?_) ?_ ?_
      rotate_left
      ·show Act.put _ (some 45) _ = _
       simp only [Act.put, List.setIfInBounds_toArray, List.set_cons_zero, List.set_cons_succ, i64_w, i32_w]
       rfl
      refine one_ (i := 3) (N := some 46) #[true, true, true, true, false] rfl rfl (by kernel_rfl) (by decide) (fun K hK => ?_)
      refine goes_ Try.func39 (by kernel_rfl) rfl #[.agg #[.slice Ao25 t170.length co25, .slice Ao28 t173.length co28], .agg #[.slice Ao37 t179.length co37, .slice Ao38 t182.length co38]] (by rfl) rfl rfl (by (try simp only [List.map_toArray, List.map_cons, List.map_nil]); first | done | rfl | (simp only [List.length_drop, List.length_take]; rfl)) ?_
      with_reducible refine (laws_eqFlight.calls kj12 _ _ t170 _ _ t173 _ _ t179 _ _ t182 true _ ?side1 ?side2 ?side3 ?side4 ?side5 ?side6 ?side7 ?side8 A33.out).mono ?_
      (case side1 => exact xd ((Kd.R_reads' HO_177000.out).2.2))
      (case side2 => exact (Kd.R_reads' HO_177000.out).2.1)
      (case side3 => exact xd ((Kd.R_reads' HO_177001.out).2.2))
      (case side4 => exact (Kd.R_reads' HO_177001.out).2.1)
      (case side5 => exact xd ((Kd.R_reads' HO181.out).2.2))
      (case side6 => exact (Kd.R_reads' HO181.out).2.1)
      (case side7 => exact xd ((Kd.R_reads' HO184.out).2.2))
      (case side8 => exact (Kd.R_reads' HO184.out).2.1)
      rintro e w39 ⟨rfl, hb⟩
      refine ⟨_, rfl, ?_⟩
      replace HO_177000 := xq HO_177000 hb
      replace HO_177001 := xq HO_177001 hb
      replace HO181 := xq HO181 hb
      replace HO184 := xq HO184 hb
      replace BK160 := xk BK160 hb
      replace BK176 := xk BK176 hb
      replace HB := xp HB hb
      (try clear hb)
      (try clear hb2)
      (try clear hk)
      (try clear hi)
      refine hK.out _ _ ⟨(blk_cell BK176.out 0).trans rfl, (blk_cell BK176.out 1).trans rfl, (blk_cell BK160.out 0).trans rfl, (blk_cell BK160.out 1).trans rfl⟩ (fun hHeld => ?_)
      clear hK K
      refine norm_ (a' := ?_) ?_ ?_
      rotate_left
      ·show Act.put _ (some 46) _ = _
       simp only [Act.put, List.setIfInBounds_toArray, List.set_cons_zero, List.set_cons_succ, i64_w, i32_w]
       rfl
      refine pure_ (i := 4) (N := some 47) (v := ?_) (a' := ?_) #[true, true, true, true, true] rfl rfl (by kernel_rfl) (fun _ _ _ h => h) (Or.inl ⟨by rfl, ?_⟩) ?_ ?_
      rotate_left
      ·intro w'
       go_simp
       with_reducible rfl
      rotate_left
      ·simp only [Act.put, List.setIfInBounds_toArray, List.set_cons_zero, List.set_cons_succ, i64_w, i32_w]
       rfl
      refine done_ (by kernel_rfl) ?_
      try go_wp2
      go_ret
      exact ⟨by first | rfl | (simp [errW_none, errW_some] <;> rfl) | (simp [*, errW_none, errW_some] <;> rfl), by repeat (first | (with_reducible first | exact HB.out | apply below_alloc | apply pw_below_drewN | apply below_drew1 | refine below_set ?_ GE160.out | refine below_set ?_ GE176.out) | exact HB.out)⟩
     ·replace c34 := Bool.eq_false_iff.mpr c34
      subst c34
      have H1 : (some false) = some true := by first | (rw [if_neg (show ¬ (false = true) by decide)] at H; exact H) | rfl
      clear H
      have H := H1
      clear H1
      exact absurd H (by simp)

end Go.Proofs.Ytminippcikenfaa.PFnExactLeastTraffic

/- Lean functions of the Go functions that the law FnExactLeastScale reaches, and the proofs that the calls come to what they say (made by program). -/
import Derived.Test.YtobkbpoamicjgaaAb
import Derived.Test.YtobkbpoamicjgaaPFnExactLeastScalex0
import Derived.Test.YtobkbpoamicjgaaPFnExactLeastScalex1
import Derived.Test.YtobkbpoamicjgaaPFnExactLeastScalex3
import Derived.Test.YtobkbpoamicjgaaPFnExactLeastScalex5
namespace Go.Proofs.Ytobkbpoamicjgaa.PFnExactLeastScale
open Go.RowKit Go.Proofs.YtobkbpoamicjgaaW.PrintWords Go.Proofs.YtobkbpoamicjgaaW.PrintLast Go.Proofs.YtobkbpoamicjgaaW.PrintMore Go.Proofs.Ytobkbpoamicjgaa.Ab
attribute [local go_sem] max2_int min2_int max_two min_two max_three min_three max_four min_four   -- for this text's walks alone
set_option linter.unusedVariables false
set_option linter.unusedSimpArgs false

/-! ### laws_FnExactLeastScale: function 5 -/
mutual
def laws_FnExactLeastScale.j0 : Nat → Int → Bool → Int → Bool → Bool → List Int → List Int → List Int → List Int → List Int → List Int → List Int → List Int → Option (Bool)
  | 0, _, _, _, _, _, _, _, _, _, _, _, _, _ => none
  | k + 1, x5, x6, x9, x10, x50, x189000, x189001, x205000, x205001, x212000, x212001, x221000, x221001 => if x50 = true then (some false) else ((laws_toVessels.f k x189000 x189001).bind fun bt222 => ((laws_eqVessels.f k x212000 x212001 bt222.1 bt222.2).bind fun t228 => (if t228 = true then ((laws_markVessels.f k x212000 x212001 1).bind fun bt229 => (if bt229.1 < 0 then (laws_FnExactLeastScale.j1 k x5 x6 true x189000 x189001 x205000 x205001 x221000 x221001) else ((laws_eqVessels.f k x221000 x221001 x205000 x205001).bind fun t232 => (if t232 = true then (if x9 = x5 then (laws_FnExactLeastScale.j1 k x5 x6 (x10 != x6) x189000 x189001 x205000 x205001 x221000 x221001) else (laws_FnExactLeastScale.j1 k x5 x6 true x189000 x189001 x205000 x205001 x221000 x221001)) else (laws_FnExactLeastScale.j1 k x5 x6 true x189000 x189001 x205000 x205001 x221000 x221001))))) else (some false))))
def laws_FnExactLeastScale.j1 : Nat → Int → Bool → Bool → List Int → List Int → List Int → List Int → List Int → List Int → Option (Bool)
  | 0, _, _, _, _, _, _, _, _, _ => none
  | k + 1, x5, x6, x76, x189000, x189001, x205000, x205001, x221000, x221001 => if x76 = true then (some false) else ((laws_markVessels.f k x221000 x221001 1).bind fun bt233 => ((laws_heldVessels.f k bt233.2.1 bt233.2.2 1).bind fun t236 => (if t236 < 0 then (some false) else (if t236 = bt233.1 then ((laws_toVessels.f k x189000 x189001).bind fun bt237 => ((impl_LeastScale.f k bt237.1 bt237.2).bind fun bt243 => ((laws_eqVessels.f k bt243.1 bt243.2.1 x205000 x205001).bind fun t252 => (if t252 = true then (if bt243.2.2.1 = x5 then (laws_FnExactLeastScale.j2 k bt233.1 (bt243.2.2.2 != x6) bt233.2.1 bt233.2.2) else (laws_FnExactLeastScale.j2 k bt233.1 true bt233.2.1 bt233.2.2)) else (laws_FnExactLeastScale.j2 k bt233.1 true bt233.2.1 bt233.2.2))))) else (some false)))))
def laws_FnExactLeastScale.j2 : Nat → Int → Bool → List Int → List Int → Option (Bool)
  | 0, _, _, _, _ => none
  | k + 1, x12, x108, x221000, x221001 => if x108 = true then (some false) else ((laws_heldVessels.f k x221000 x221001 1).bind fun t253 => (if t253 < 0 then (some false) else (if t253 = x12 then (some true) else (some false))))
end
def laws_FnExactLeastScale.f (k : Nat) (l0_0 : List Int) (l0_1 : List Int) : Option (Bool) := (laws_szVessels.f l0_0 l0_1 1048576).bind fun t189 => (if t189 < 0 then (some true) else ((laws_toVessels.f k l0_0 l0_1).bind fun bt190 => ((spec_LeastScale.f k bt190.1 bt190.2).bind fun bt196 => ((laws_toVessels.f k l0_0 l0_1).bind fun bt205 => ((impl_LeastScale.f k bt205.1 bt205.2).bind fun bt212 => ((laws_eqVessels.f k bt212.1 bt212.2.1 bt196.1 bt196.2.1).bind fun t221 => (if t221 = true then (if bt212.2.2.1 = bt196.2.2.1 then (laws_FnExactLeastScale.j0 k bt196.2.2.1 bt196.2.2.2 bt212.2.2.1 bt212.2.2.2 (bt212.2.2.2 != bt196.2.2.2) l0_0 l0_1 bt196.1 bt196.2.1 bt205.1 bt205.2 bt212.1 bt212.2.1) else (laws_FnExactLeastScale.j0 k bt196.2.2.1 bt196.2.2.2 bt212.2.2.1 bt212.2.2.2 true l0_0 l0_1 bt196.1 bt196.2.1 bt205.1 bt205.2 bt212.1 bt212.2.1)) else (laws_FnExactLeastScale.j0 k bt196.2.2.1 bt196.2.2.2 bt212.2.2.1 bt212.2.2.2 true l0_0 l0_1 bt196.1 bt196.2.1 bt205.1 bt205.2 bt212.1 bt212.2.1))))))))
theorem laws_FnExactLeastScale.mono_l : ∀ k, (∀ y0 y1 y2 y3 y4 y5 y6 y7 y8 y9 y10 y11 y12, LeO (laws_FnExactLeastScale.j0 k y0 y1 y2 y3 y4 y5 y6 y7 y8 y9 y10 y11 y12) (laws_FnExactLeastScale.j0 (k + 1) y0 y1 y2 y3 y4 y5 y6 y7 y8 y9 y10 y11 y12)) ∧ (∀ y0 y1 y2 y3 y4 y5 y6 y7 y8, LeO (laws_FnExactLeastScale.j1 k y0 y1 y2 y3 y4 y5 y6 y7 y8) (laws_FnExactLeastScale.j1 (k + 1) y0 y1 y2 y3 y4 y5 y6 y7 y8)) ∧ (∀ y0 y1 y2 y3, LeO (laws_FnExactLeastScale.j2 k y0 y1 y2 y3) (laws_FnExactLeastScale.j2 (k + 1) y0 y1 y2 y3))
 | 0 => ⟨fun _ _ _ _ _ _ _ _ _ _ _ _ _ r h => by simp [laws_FnExactLeastScale.j0] at h, fun _ _ _ _ _ _ _ _ _ r h => by simp [laws_FnExactLeastScale.j1] at h, fun _ _ _ _ r h => by simp [laws_FnExactLeastScale.j2] at h⟩
 | k + 1 => by
  obtain ⟨ih0, ih1, ih2⟩ := laws_FnExactLeastScale.mono_l k
  refine ⟨?_, ?_, ?_⟩
  ·intro y0 y1 y2 y3 y4 y5 y6 y7 y8 y9 y10 y11 y12
   unfold laws_FnExactLeastScale.j0
   repeat' first
   | (with_reducible exact ih0 _ _ _ _ _ _ _ _ _ _ _ _ _)
   | (with_reducible exact ih1 _ _ _ _ _ _ _ _ _)
   | (with_reducible exact ih2 _ _ _ _)
   | (with_reducible exact impl_LeastScale.mono _ _ _)
   | (with_reducible exact laws_eqVessels.mono _ _ _ _ _)
   | (with_reducible exact laws_heldVessels.mono _ _ _ _)
   | (with_reducible exact laws_markVessels.mono _ _ _ _)
   | (with_reducible exact laws_toVessels.mono _ _ _)
   | (with_reducible exact spec_LeastScale.mono _ _ _)
   | (with_reducible exact LeO.refl _)
   | (with_reducible exact LeO.none _)
   | (with_reducible refine LeO.ite ?_ ?_)
   | (with_reducible refine LeO.bind ?_ (fun _ => ?_))
   | exact ih0 _ _ _ _ _ _ _ _ _ _ _ _ _
   | exact ih1 _ _ _ _ _ _ _ _ _
   | exact ih2 _ _ _ _
   | exact impl_LeastScale.mono _ _ _
   | exact laws_eqVessels.mono _ _ _ _ _
   | exact laws_heldVessels.mono _ _ _ _
   | exact laws_markVessels.mono _ _ _ _
   | exact laws_toVessels.mono _ _ _
   | exact spec_LeastScale.mono _ _ _
   | exact LeO.none _
   | refine LeO.ite ?_ ?_
   | refine LeO.bind ?_ (fun _ => ?_)
  ·intro y0 y1 y2 y3 y4 y5 y6 y7 y8
   unfold laws_FnExactLeastScale.j1
   repeat' first
   | (with_reducible exact ih0 _ _ _ _ _ _ _ _ _ _ _ _ _)
   | (with_reducible exact ih1 _ _ _ _ _ _ _ _ _)
   | (with_reducible exact ih2 _ _ _ _)
   | (with_reducible exact impl_LeastScale.mono _ _ _)
   | (with_reducible exact laws_eqVessels.mono _ _ _ _ _)
   | (with_reducible exact laws_heldVessels.mono _ _ _ _)
   | (with_reducible exact laws_markVessels.mono _ _ _ _)
   | (with_reducible exact laws_toVessels.mono _ _ _)
   | (with_reducible exact spec_LeastScale.mono _ _ _)
   | (with_reducible exact LeO.refl _)
   | (with_reducible exact LeO.none _)
   | (with_reducible refine LeO.ite ?_ ?_)
   | (with_reducible refine LeO.bind ?_ (fun _ => ?_))
   | exact ih0 _ _ _ _ _ _ _ _ _ _ _ _ _
   | exact ih1 _ _ _ _ _ _ _ _ _
   | exact ih2 _ _ _ _
   | exact impl_LeastScale.mono _ _ _
   | exact laws_eqVessels.mono _ _ _ _ _
   | exact laws_heldVessels.mono _ _ _ _
   | exact laws_markVessels.mono _ _ _ _
   | exact laws_toVessels.mono _ _ _
   | exact spec_LeastScale.mono _ _ _
   | exact LeO.none _
   | refine LeO.ite ?_ ?_
   | refine LeO.bind ?_ (fun _ => ?_)
  ·intro y0 y1 y2 y3
   unfold laws_FnExactLeastScale.j2
   repeat' first
   | (with_reducible exact ih0 _ _ _ _ _ _ _ _ _ _ _ _ _)
   | (with_reducible exact ih1 _ _ _ _ _ _ _ _ _)
   | (with_reducible exact ih2 _ _ _ _)
   | (with_reducible exact impl_LeastScale.mono _ _ _)
   | (with_reducible exact laws_eqVessels.mono _ _ _ _ _)
   | (with_reducible exact laws_heldVessels.mono _ _ _ _)
   | (with_reducible exact laws_markVessels.mono _ _ _ _)
   | (with_reducible exact laws_toVessels.mono _ _ _)
   | (with_reducible exact spec_LeastScale.mono _ _ _)
   | (with_reducible exact LeO.refl _)
   | (with_reducible exact LeO.none _)
   | (with_reducible refine LeO.ite ?_ ?_)
   | (with_reducible refine LeO.bind ?_ (fun _ => ?_))
   | exact ih0 _ _ _ _ _ _ _ _ _ _ _ _ _
   | exact ih1 _ _ _ _ _ _ _ _ _
   | exact ih2 _ _ _ _
   | exact impl_LeastScale.mono _ _ _
   | exact laws_eqVessels.mono _ _ _ _ _
   | exact laws_heldVessels.mono _ _ _ _
   | exact laws_markVessels.mono _ _ _ _
   | exact laws_toVessels.mono _ _ _
   | exact spec_LeastScale.mono _ _ _
   | exact LeO.none _
   | refine LeO.ite ?_ ?_
   | refine LeO.bind ?_ (fun _ => ?_)
theorem laws_FnExactLeastScale.mono : ∀ a0 a1 k, LeO (laws_FnExactLeastScale.f k a0 a1) (laws_FnExactLeastScale.f (k + 1) a0 a1) := by
 intro a0 a1 k
 obtain ⟨ih0, ih1, ih2⟩ := laws_FnExactLeastScale.mono_l k
 unfold laws_FnExactLeastScale.f
 repeat' first
   | (with_reducible exact ih0 _ _ _ _ _ _ _ _ _ _ _ _ _)
   | (with_reducible exact ih1 _ _ _ _ _ _ _ _ _)
   | (with_reducible exact ih2 _ _ _ _)
   | (with_reducible exact impl_LeastScale.mono _ _ _)
   | (with_reducible exact laws_eqVessels.mono _ _ _ _ _)
   | (with_reducible exact laws_heldVessels.mono _ _ _ _)
   | (with_reducible exact laws_markVessels.mono _ _ _ _)
   | (with_reducible exact laws_toVessels.mono _ _ _)
   | (with_reducible exact spec_LeastScale.mono _ _ _)
   | (with_reducible exact LeO.refl _)
   | (with_reducible exact LeO.none _)
   | (with_reducible refine LeO.ite ?_ ?_)
   | (with_reducible refine LeO.bind ?_ (fun _ => ?_))
   | exact ih0 _ _ _ _ _ _ _ _ _ _ _ _ _
   | exact ih1 _ _ _ _ _ _ _ _ _
   | exact ih2 _ _ _ _
   | exact impl_LeastScale.mono _ _ _
   | exact laws_eqVessels.mono _ _ _ _ _
   | exact laws_heldVessels.mono _ _ _ _
   | exact laws_markVessels.mono _ _ _ _
   | exact laws_toVessels.mono _ _ _
   | exact spec_LeastScale.mono _ _ _
   | exact LeO.none _
   | refine LeO.ite ?_ ?_
   | refine LeO.bind ?_ (fun _ => ?_)
set_option maxHeartbeats 8000000 in
set_option maxRecDepth 100000 in
theorem laws_FnExactLeastScale.calls (k : Nat) (A0_0 : Option Addr) (c0_0 : Nat) (l0_0 : List Int) (A0_1 : Option Addr) (c0_1 : Nat) (l0_1 : List Int) (w : World) (hr0_0 : Kd.C (Kd.int .i64) w A0_0 l0_0.length l0_0) (hc0_0 : l0_0.length ≤ c0_0) (hr0_1 : Kd.C (Kd.int .i64) w A0_1 l0_1.length l0_1) (hc0_1 : l0_1.length ≤ c0_1) (h : laws_FnExactLeastScale.f k l0_0 l0_1 = some true) :
  Calls Try.prog 5 #[.agg #[.slice A0_0 l0_0.length c0_0, .slice A0_1 l0_1.length c0_1]] w fun e w' => e = .returned (.bool true) ∧ Below w.heap.size w w' := by
 have hu24 := Try.underlying24
 have hu26 := Try.underlying26
 have HR0_0 := Aside0.mk hr0_0
 have HC0_0 := Aside0.mk hc0_0
 clear hr0_0 hc0_0
 have HR0_1 := Aside0.mk hr0_1
 have HC0_1 := Aside0.mk hc0_1
 clear hr0_1 hc0_1
 have HB := Aside0.mk (Below.refl w.heap.size w)
 have H : ((laws_szVessels.f l0_0 l0_1 1048576).bind fun t189 => (if t189 < 0 then (some true) else ((laws_toVessels.f k l0_0 l0_1).bind fun bt190 => ((spec_LeastScale.f k bt190.1 bt190.2).bind fun bt196 => ((laws_toVessels.f k l0_0 l0_1).bind fun bt205 => ((impl_LeastScale.f k bt205.1 bt205.2).bind fun bt212 => ((laws_eqVessels.f k bt212.1 bt212.2.1 bt196.1 bt196.2.1).bind fun t221 => (if t221 = true then (if bt212.2.2.1 = bt196.2.2.1 then (laws_FnExactLeastScale.j0 k bt196.2.2.1 bt196.2.2.2 bt212.2.2.1 bt212.2.2.2 (bt212.2.2.2 != bt196.2.2.2) l0_0 l0_1 bt196.1 bt196.2.1 bt205.1 bt205.2 bt212.1 bt212.2.1) else (laws_FnExactLeastScale.j0 k bt196.2.2.1 bt196.2.2.2 bt212.2.2.1 bt212.2.2.2 true l0_0 l0_1 bt196.1 bt196.2.1 bt205.1 bt205.2 bt212.1 bt212.2.1)) else (laws_FnExactLeastScale.j0 k bt196.2.2.1 bt196.2.2.2 bt212.2.2.1 bt212.2.2.2 true l0_0 l0_1 bt196.1 bt196.2.1 bt205.1 bt205.2 bt212.1 bt212.2.1))))))))) = some true := h
 clear h
 replace H := Option.bind_eq_some_iff.mp H
 obtain ⟨t189, A20, H⟩ := H
 replace H : (if t189 < 0 then (some true) else ((laws_toVessels.f k l0_0 l0_1).bind fun bt190 => ((spec_LeastScale.f k bt190.1 bt190.2).bind fun bt196 => ((laws_toVessels.f k l0_0 l0_1).bind fun bt205 => ((impl_LeastScale.f k bt205.1 bt205.2).bind fun bt212 => ((laws_eqVessels.f k bt212.1 bt212.2.1 bt196.1 bt196.2.1).bind fun t221 => (if t221 = true then (if bt212.2.2.1 = bt196.2.2.1 then (laws_FnExactLeastScale.j0 k bt196.2.2.1 bt196.2.2.2 bt212.2.2.1 bt212.2.2.2 (bt212.2.2.2 != bt196.2.2.2) l0_0 l0_1 bt196.1 bt196.2.1 bt205.1 bt205.2 bt212.1 bt212.2.1) else (laws_FnExactLeastScale.j0 k bt196.2.2.1 bt196.2.2.2 bt212.2.2.1 bt212.2.2.2 true l0_0 l0_1 bt196.1 bt196.2.1 bt205.1 bt205.2 bt212.1 bt212.2.1)) else (laws_FnExactLeastScale.j0 k bt196.2.2.1 bt196.2.2.2 bt212.2.2.1 bt212.2.2.2 true l0_0 l0_1 bt196.1 bt196.2.1 bt205.1 bt205.2 bt212.1 bt212.2.1)))))))) = some true := H
 have A2 := Aside0.mk A20
 clear A20
 by_cases c3 : t189 < 0
 ·rw [if_pos c3] at H
  have c3b0 : decide (t189 < 0) = true := decide_eq_true c3
  clear c3
  clear H
  go_enter Try.func5, Try.ntmps5
  go_wp2_with (first | ((with_reducible refine gate_dst (N := 1) rfl ?_); refine box_event ?hg (N := 1) ?hd (cs := #[.slice A0_0 l0_0.length c0_0, .slice A0_1 l0_1.length c0_1]) (t := 24) ?hr ?_; (case hd => rfl); (case hg => rfl); (case hr => first | (go_simp; done) | (go_simp; rfl)); intro gb188 hg w4 hbox hb; have BK188 := Aside0.mk (hbox); have GW188 := xg HB hg; have GE188 := xg HB hg; replace HB := xp HB hb; clear hb hbox hg; have hcz5_0 : w4.cell? ⟨gb188, 0, none⟩ = some (.slice A0_0 l0_0.length c0_0) := (blk_cell BK188.out 0).trans rfl; have hcz5_1 : w4.cell? ⟨gb188, 1, none⟩ = some (.slice A0_1 l0_1.length c0_1) := (blk_cell BK188.out 1).trans rfl; have hfz5_0 := blk_frozen BK188.out 0; have hfz5_1 := blk_frozen BK188.out 1) | ((with_reducible refine gate_callee (f := 15) rfl ?_); refine goesL_ (some 19) rfl rfl Try.func15 (by kernel_rfl) rfl #[.agg #[.slice A0_0 l0_0.length c0_0, .slice A0_1 l0_1.length c0_1], .int .i64 1048576] rfl (by (try simp only [List.map_toArray, List.map_cons, List.map_nil]); first | done | rfl | (simp only [List.length_drop, List.length_take]; rfl)) ?_; (with_reducible refine (laws_szVessels.calls _ _ l0_0 _ _ l0_1 1048576 t189 _ ?side1 ?side2 ?side3 ?side4 A2.out).mono ?_); (case side1 => exact xd ((Kd.C_below HR0_0.out HB.out))); (case side2 => exact HC0_0.out); (case side3 => exact xd ((Kd.C_below HR0_1.out HB.out))); (case side4 => exact HC0_1.out); rintro e w6 ⟨rfl, hb⟩; refine ⟨_, rfl, ?_⟩; replace BK188 := xk BK188 hb; replace HB := xp HB hb; (try clear hb); (try clear hb2); (try clear hk); (try clear hi)))
  go_ret
  exact ⟨by first | rfl | (simp [errW_none, errW_some] <;> rfl) | (simp [*, errW_none, errW_some] <;> rfl), by repeat (first | (with_reducible first | exact HB.out | apply below_alloc | apply pw_below_drewN | apply below_drew1 | refine below_set ?_ GE188.out) | exact HB.out)⟩
 ·rw [if_neg c3] at H
  have c3b0 : decide (t189 < 0) = false := decide_eq_false c3
  clear c3
  replace H := Option.bind_eq_some_iff.mp H
  obtain ⟨⟨t190, t193⟩, A70, H⟩ := H
  replace H : ((spec_LeastScale.f k t190 t193).bind fun bt196 => ((laws_toVessels.f k l0_0 l0_1).bind fun bt205 => ((impl_LeastScale.f k bt205.1 bt205.2).bind fun bt212 => ((laws_eqVessels.f k bt212.1 bt212.2.1 bt196.1 bt196.2.1).bind fun t221 => (if t221 = true then (if bt212.2.2.1 = bt196.2.2.1 then (laws_FnExactLeastScale.j0 k bt196.2.2.1 bt196.2.2.2 bt212.2.2.1 bt212.2.2.2 (bt212.2.2.2 != bt196.2.2.2) l0_0 l0_1 bt196.1 bt196.2.1 bt205.1 bt205.2 bt212.1 bt212.2.1) else (laws_FnExactLeastScale.j0 k bt196.2.2.1 bt196.2.2.2 bt212.2.2.1 bt212.2.2.2 true l0_0 l0_1 bt196.1 bt196.2.1 bt205.1 bt205.2 bt212.1 bt212.2.1)) else (laws_FnExactLeastScale.j0 k bt196.2.2.1 bt196.2.2.2 bt212.2.2.1 bt212.2.2.2 true l0_0 l0_1 bt196.1 bt196.2.1 bt205.1 bt205.2 bt212.1 bt212.2.1)))))) = some true := H
  have A7 := Aside0.mk A70
  clear A70
  replace H := Option.bind_eq_some_iff.mp H
  obtain ⟨⟨t196, t199, t202, t203⟩, A80, H⟩ := H
  replace H : ((laws_toVessels.f k l0_0 l0_1).bind fun bt205 => ((impl_LeastScale.f k bt205.1 bt205.2).bind fun bt212 => ((laws_eqVessels.f k bt212.1 bt212.2.1 t196 t199).bind fun t221 => (if t221 = true then (if bt212.2.2.1 = t202 then (laws_FnExactLeastScale.j0 k t202 t203 bt212.2.2.1 bt212.2.2.2 (bt212.2.2.2 != t203) l0_0 l0_1 t196 t199 bt205.1 bt205.2 bt212.1 bt212.2.1) else (laws_FnExactLeastScale.j0 k t202 t203 bt212.2.2.1 bt212.2.2.2 true l0_0 l0_1 t196 t199 bt205.1 bt205.2 bt212.1 bt212.2.1)) else (laws_FnExactLeastScale.j0 k t202 t203 bt212.2.2.1 bt212.2.2.2 true l0_0 l0_1 t196 t199 bt205.1 bt205.2 bt212.1 bt212.2.1))))) = some true := H
  have A8 := Aside0.mk A80
  clear A80
  replace H := Option.bind_eq_some_iff.mp H
  obtain ⟨⟨t205, t208⟩, A90, H⟩ := H
  replace H : ((impl_LeastScale.f k t205 t208).bind fun bt212 => ((laws_eqVessels.f k bt212.1 bt212.2.1 t196 t199).bind fun t221 => (if t221 = true then (if bt212.2.2.1 = t202 then (laws_FnExactLeastScale.j0 k t202 t203 bt212.2.2.1 bt212.2.2.2 (bt212.2.2.2 != t203) l0_0 l0_1 t196 t199 t205 t208 bt212.1 bt212.2.1) else (laws_FnExactLeastScale.j0 k t202 t203 bt212.2.2.1 bt212.2.2.2 true l0_0 l0_1 t196 t199 t205 t208 bt212.1 bt212.2.1)) else (laws_FnExactLeastScale.j0 k t202 t203 bt212.2.2.1 bt212.2.2.2 true l0_0 l0_1 t196 t199 t205 t208 bt212.1 bt212.2.1)))) = some true := H
  have A9 := Aside0.mk A90
  clear A90
  replace H := Option.bind_eq_some_iff.mp H
  obtain ⟨⟨t212, t215, t218, t219⟩, A100, H⟩ := H
  replace H : ((laws_eqVessels.f k t212 t215 t196 t199).bind fun t221 => (if t221 = true then (if t218 = t202 then (laws_FnExactLeastScale.j0 k t202 t203 t218 t219 (t219 != t203) l0_0 l0_1 t196 t199 t205 t208 t212 t215) else (laws_FnExactLeastScale.j0 k t202 t203 t218 t219 true l0_0 l0_1 t196 t199 t205 t208 t212 t215)) else (laws_FnExactLeastScale.j0 k t202 t203 t218 t219 true l0_0 l0_1 t196 t199 t205 t208 t212 t215))) = some true := H
  have A10 := Aside0.mk A100
  clear A100
  have HC11 := Aside0.mk H
  clear H
  go_enter Try.func5, Try.ntmps5
  go_upto_region 8 with (first | ((with_reducible refine gate_dst (N := 1) rfl ?_); refine box_event ?hg (N := 1) ?hd (cs := #[.slice A0_0 l0_0.length c0_0, .slice A0_1 l0_1.length c0_1]) (t := 24) ?hr ?_; (case hd => rfl); (case hg => rfl); (case hr => first | (go_simp; done) | (go_simp; rfl)); intro gb188 hg w12 hbox hb; have BK188 := Aside0.mk (hbox); have GW188 := xg HB hg; have GE188 := xg HB hg; replace HB := xp HB hb; clear hb hbox hg; have hcz13_0 : w12.cell? ⟨gb188, 0, none⟩ = some (.slice A0_0 l0_0.length c0_0) := (blk_cell BK188.out 0).trans rfl; have hcz13_1 : w12.cell? ⟨gb188, 1, none⟩ = some (.slice A0_1 l0_1.length c0_1) := (blk_cell BK188.out 1).trans rfl; have hfz13_0 := blk_frozen BK188.out 0; have hfz13_1 := blk_frozen BK188.out 1) | ((with_reducible refine gate_callee (f := 15) rfl ?_); refine goesL_ (some 19) rfl rfl Try.func15 (by kernel_rfl) rfl #[.agg #[.slice A0_0 l0_0.length c0_0, .slice A0_1 l0_1.length c0_1], .int .i64 1048576] rfl (by (try simp only [List.map_toArray, List.map_cons, List.map_nil]); first | done | rfl | (simp only [List.length_drop, List.length_take]; rfl)) ?_; (with_reducible refine (laws_szVessels.calls _ _ l0_0 _ _ l0_1 1048576 t189 _ ?side1 ?side2 ?side3 ?side4 A2.out).mono ?_); (case side1 => exact xd ((Kd.C_below HR0_0.out HB.out))); (case side2 => exact HC0_0.out); (case side3 => exact xd ((Kd.C_below HR0_1.out HB.out))); (case side4 => exact HC0_1.out); rintro e w14 ⟨rfl, hb⟩; refine ⟨_, rfl, ?_⟩; replace BK188 := xk BK188 hb; replace HB := xp HB hb; (try clear hb); (try clear hb2); (try clear hk); (try clear hi); have hcz15_0 : w14.cell? ⟨gb188, 0, none⟩ = some (.slice A0_0 l0_0.length c0_0) := (blk_cell BK188.out 0).trans rfl; have hcz15_1 : w14.cell? ⟨gb188, 1, none⟩ = some (.slice A0_1 l0_1.length c0_1) := (blk_cell BK188.out 1).trans rfl; have hfz15_0 := blk_frozen BK188.out 0; have hfz15_1 := blk_frozen BK188.out 1) | ((with_reducible refine gate_callee (f := 17) rfl ?_); refine goesL_ (some 24) rfl rfl Try.func17 (by kernel_rfl) rfl #[.agg #[.slice A0_0 l0_0.length c0_0, .slice A0_1 l0_1.length c0_1]] rfl (by (try simp only [List.map_toArray, List.map_cons, List.map_nil]); first | done | rfl | (simp only [List.length_drop, List.length_take]; rfl)) ?_; (with_reducible refine (laws_toVessels.calls k _ _ l0_0 _ _ l0_1 t190 t193 _ ?side1 ?side2 ?side3 ?side4 A7.out).mono ?_); (case side1 => exact xd ((Kd.C_below HR0_0.out HB.out))); (case side2 => exact HC0_0.out); (case side3 => exact xd ((Kd.C_below HR0_1.out HB.out))); (case side4 => exact HC0_1.out); rintro e w16 ⟨v191, v194, rfl, ho0, ho1, hb⟩; refine ⟨_, rfl, ?_⟩; have HO192 := Aside0.mk (Kd.R_lower ho0 (below_size (xs HB.out))); have HO195 := Aside0.mk (Kd.R_lower ho1 (below_size (xs HB.out))); replace BK188 := xk BK188 hb; replace HB := xp HB hb; (try clear hb); (try clear hb2); (try clear hk); (try clear hi); (try clear ho0); (try clear ho1); obtain ⟨Ao17, co17, eo17⟩ := Kd.R_slice HO192.out; subst eo17; obtain ⟨Ao18, co18, eo18⟩ := Kd.R_slice HO195.out; subst eo18) | ((with_reducible refine gate_callee (f := 24) rfl ?_); refine goesL_ (some 25) rfl rfl Try.func24 (by kernel_rfl) rfl #[.agg #[.slice Ao17 t190.length co17, .slice Ao18 t193.length co18]] rfl (by (try simp only [List.map_toArray, List.map_cons, List.map_nil]); first | done | rfl | (simp only [List.length_drop, List.length_take]; rfl)) ?_; (with_reducible refine (spec_LeastScale.calls k _ _ t190 _ _ t193 t196 t199 t202 t203 _ ?side1 ?side2 ?side3 ?side4 A8.out).mono ?_); (case side1 => exact xd ((Kd.R_reads' HO192.out).2.2)); (case side2 => exact (Kd.R_reads' HO192.out).2.1); (case side3 => exact xd ((Kd.R_reads' HO195.out).2.2)); (case side4 => exact (Kd.R_reads' HO195.out).2.1); rintro e w19 ⟨v197, v200, rfl, ho0, ho1, hb⟩; refine ⟨_, rfl, ?_⟩; have HO198 := Aside0.mk (Kd.R_lower (Kd.R_new' (Kd.R_new' ho0 (Kd.R_lt (xr HO192.out))) (Kd.R_lt (xr HO195.out))) (below_size (xs HB.out))); have HO201 := Aside0.mk (Kd.R_lower (Kd.R_new' (Kd.R_new' ho1 (Kd.R_lt (xr HO192.out))) (Kd.R_lt (xr HO195.out))) (below_size (xs HB.out))); replace HO192 := xt HO192 hb ho0 ho1; replace HO195 := xt HO195 hb ho0 ho1; replace BK188 := xk BK188 hb; replace HB := xp HB hb; (try clear hb); (try clear hb2); (try clear hk); (try clear hi); (try clear ho0); (try clear ho1)) | ((with_reducible refine gate_dst (N := 4) rfl ?_); refine box_event ?hg (N := 4) ?hd (cs := #[.slice none 0 0, .slice none 0 0]) (t := 26) ?hr ?_; (case hd => rfl); (case hg => rfl); (case hr => first | (go_simp; done) | (go_simp; rfl)); intro gb204 hg w20 hbox hb; replace HO192 := xq HO192 hb; replace HO195 := xq HO195 hb; replace HO198 := xq HO198 hb; replace HO201 := xq HO201 hb; have BK204 := Aside0.mk (hbox); have GW204 := xg HB hg; have GE204 := xg HB hg; replace HB := xp HB hb; have NB188_204 := xl BK188 hg; have NB204_188 := xh BK188 hg; replace BK188 := xk BK188 hb; clear hb hbox hg; obtain ⟨Ao21, co21, eo21⟩ := Kd.R_slice HO198.out; subst eo21; have hnb22 := NB204_188.out; have hnc22 := NB188_204.out; have hcz23_0 : w20.cell? ⟨gb204, 0, none⟩ = some (.slice none 0 0) := (blk_cell BK204.out 0).trans rfl; have hcz23_1 : w20.cell? ⟨gb204, 1, none⟩ = some (.slice none 0 0) := (blk_cell BK204.out 1).trans rfl; have hfz23_0 := blk_frozen BK204.out 0; have hfz23_1 := blk_frozen BK204.out 1; obtain ⟨Ao24, co24, eo24⟩ := Kd.R_slice HO201.out; subst eo24; have hcz25_0 : w20.cell? ⟨gb188, 0, none⟩ = some (.slice A0_0 l0_0.length c0_0) := (blk_cell BK188.out 0).trans rfl; have hcz25_1 : w20.cell? ⟨gb188, 1, none⟩ = some (.slice A0_1 l0_1.length c0_1) := (blk_cell BK188.out 1).trans rfl; have hfz25_0 := blk_frozen BK188.out 0; have hfz25_1 := blk_frozen BK188.out 1) | ((with_reducible refine gate_callee (f := 17) rfl ?_); refine goesL_ (some 30) rfl rfl Try.func17 (by kernel_rfl) rfl #[.agg #[.slice A0_0 l0_0.length c0_0, .slice A0_1 l0_1.length c0_1]] rfl (by (try simp only [List.map_toArray, List.map_cons, List.map_nil]); first | done | rfl | (simp only [List.length_drop, List.length_take]; rfl)) ?_; (with_reducible refine (laws_toVessels.calls k _ _ l0_0 _ _ l0_1 t205 t208 _ ?side1 ?side2 ?side3 ?side4 A9.out).mono ?_); (case side1 => exact Kd.C_below HR0_0.out (xs HB.out)); (case side2 => exact HC0_0.out); (case side3 => exact Kd.C_below HR0_1.out (xs HB.out)); (case side4 => exact HC0_1.out); rintro e w26 ⟨v206, v209, rfl, ho0, ho1, hb⟩; refine ⟨_, rfl, ?_⟩; have HO207 := Aside0.mk (Kd.R_lower (Kd.R_new' (Kd.R_new' (Kd.R_new' (Kd.R_new' ho0 (Kd.R_lt (by (with_reducible repeat (first | apply Kd.R_alloc | apply Kd.R_drewN | apply Kd.R_drew)); exact (Kd.R_mono (Kd.R_far (p := ⟨gb204, 1, none⟩) (Kd.R_far (p := ⟨gb204, 0, none⟩) (Kd.R_types HO192.out BK204.out (by decide)) (fun _ hk => hk.2) (.slice Ao21 t196.length co21)) (fun _ hk => hk.2) (.slice Ao24 t199.length co24)) (fun _ h_ => h_.1))))) (Kd.R_lt (by (with_reducible repeat (first | apply Kd.R_alloc | apply Kd.R_drewN | apply Kd.R_drew)); exact (Kd.R_mono (Kd.R_far (p := ⟨gb204, 1, none⟩) (Kd.R_far (p := ⟨gb204, 0, none⟩) (Kd.R_types HO195.out BK204.out (by decide)) (fun _ hk => hk.2) (.slice Ao21 t196.length co21)) (fun _ hk => hk.2) (.slice Ao24 t199.length co24)) (fun _ h_ => h_.1))))) (Kd.R_lt (by (with_reducible repeat (first | apply Kd.R_alloc | apply Kd.R_drewN | apply Kd.R_drew)); exact (Kd.R_mono (Kd.R_far (p := ⟨gb204, 1, none⟩) (Kd.R_far (p := ⟨gb204, 0, none⟩) (Kd.R_types HO198.out BK204.out (by decide)) (fun _ hk => hk.2) (.slice Ao21 t196.length co21)) (fun _ hk => hk.2) (.slice Ao24 t199.length co24)) (fun _ h_ => h_.1))))) (Kd.R_lt (by (with_reducible repeat (first | apply Kd.R_alloc | apply Kd.R_drewN | apply Kd.R_drew)); exact (Kd.R_mono (Kd.R_far (p := ⟨gb204, 1, none⟩) (Kd.R_far (p := ⟨gb204, 0, none⟩) (Kd.R_types HO201.out BK204.out (by decide)) (fun _ hk => hk.2) (.slice Ao21 t196.length co21)) (fun _ hk => hk.2) (.slice Ao24 t199.length co24)) (fun _ h_ => h_.1))))) (below_size (xs HB.out))); have HO210 := Aside0.mk (Kd.R_lower (Kd.R_new' (Kd.R_new' (Kd.R_new' (Kd.R_new' ho1 (Kd.R_lt (by (with_reducible repeat (first | apply Kd.R_alloc | apply Kd.R_drewN | apply Kd.R_drew)); exact (Kd.R_mono (Kd.R_far (p := ⟨gb204, 1, none⟩) (Kd.R_far (p := ⟨gb204, 0, none⟩) (Kd.R_types HO192.out BK204.out (by decide)) (fun _ hk => hk.2) (.slice Ao21 t196.length co21)) (fun _ hk => hk.2) (.slice Ao24 t199.length co24)) (fun _ h_ => h_.1))))) (Kd.R_lt (by (with_reducible repeat (first | apply Kd.R_alloc | apply Kd.R_drewN | apply Kd.R_drew)); exact (Kd.R_mono (Kd.R_far (p := ⟨gb204, 1, none⟩) (Kd.R_far (p := ⟨gb204, 0, none⟩) (Kd.R_types HO195.out BK204.out (by decide)) (fun _ hk => hk.2) (.slice Ao21 t196.length co21)) (fun _ hk => hk.2) (.slice Ao24 t199.length co24)) (fun _ h_ => h_.1))))) (Kd.R_lt (by (with_reducible repeat (first | apply Kd.R_alloc | apply Kd.R_drewN | apply Kd.R_drew)); exact (Kd.R_mono (Kd.R_far (p := ⟨gb204, 1, none⟩) (Kd.R_far (p := ⟨gb204, 0, none⟩) (Kd.R_types HO198.out BK204.out (by decide)) (fun _ hk => hk.2) (.slice Ao21 t196.length co21)) (fun _ hk => hk.2) (.slice Ao24 t199.length co24)) (fun _ h_ => h_.1))))) (Kd.R_lt (by (with_reducible repeat (first | apply Kd.R_alloc | apply Kd.R_drewN | apply Kd.R_drew)); exact (Kd.R_mono (Kd.R_far (p := ⟨gb204, 1, none⟩) (Kd.R_far (p := ⟨gb204, 0, none⟩) (Kd.R_types HO201.out BK204.out (by decide)) (fun _ hk => hk.2) (.slice Ao21 t196.length co21)) (fun _ hk => hk.2) (.slice Ao24 t199.length co24)) (fun _ h_ => h_.1))))) (below_size (xs HB.out))); replace HO192 := Aside0.mk (Kd.R_mono (Kd.R_told (Kd.R_told (Kd.R_old (by (with_reducible repeat (first | apply Kd.R_alloc | apply Kd.R_drewN | apply Kd.R_drew)); exact (Kd.R_mono (Kd.R_far (p := ⟨gb204, 1, none⟩) (Kd.R_far (p := ⟨gb204, 0, none⟩) (Kd.R_types HO192.out BK204.out (by decide)) (fun _ hk => hk.2) (.slice Ao21 t196.length co21)) (fun _ hk => hk.2) (.slice Ao24 t199.length co24)) (fun _ h_ => h_.1))) hb) (Kd.R_base ho0)) (Kd.R_base ho1)) (fun _ h_ => h_.1)); replace HO195 := Aside0.mk (Kd.R_mono (Kd.R_told (Kd.R_told (Kd.R_old (by (with_reducible repeat (first | apply Kd.R_alloc | apply Kd.R_drewN | apply Kd.R_drew)); exact (Kd.R_mono (Kd.R_far (p := ⟨gb204, 1, none⟩) (Kd.R_far (p := ⟨gb204, 0, none⟩) (Kd.R_types HO195.out BK204.out (by decide)) (fun _ hk => hk.2) (.slice Ao21 t196.length co21)) (fun _ hk => hk.2) (.slice Ao24 t199.length co24)) (fun _ h_ => h_.1))) hb) (Kd.R_base ho0)) (Kd.R_base ho1)) (fun _ h_ => h_.1)); replace HO198 := Aside0.mk (Kd.R_mono (Kd.R_told (Kd.R_told (Kd.R_old (by (with_reducible repeat (first | apply Kd.R_alloc | apply Kd.R_drewN | apply Kd.R_drew)); exact (Kd.R_mono (Kd.R_far (p := ⟨gb204, 1, none⟩) (Kd.R_far (p := ⟨gb204, 0, none⟩) (Kd.R_types HO198.out BK204.out (by decide)) (fun _ hk => hk.2) (.slice Ao21 t196.length co21)) (fun _ hk => hk.2) (.slice Ao24 t199.length co24)) (fun _ h_ => h_.1))) hb) (Kd.R_base ho0)) (Kd.R_base ho1)) (fun _ h_ => h_.1)); replace HO201 := Aside0.mk (Kd.R_mono (Kd.R_told (Kd.R_told (Kd.R_old (by (with_reducible repeat (first | apply Kd.R_alloc | apply Kd.R_drewN | apply Kd.R_drew)); exact (Kd.R_mono (Kd.R_far (p := ⟨gb204, 1, none⟩) (Kd.R_far (p := ⟨gb204, 0, none⟩) (Kd.R_types HO201.out BK204.out (by decide)) (fun _ hk => hk.2) (.slice Ao21 t196.length co21)) (fun _ hk => hk.2) (.slice Ao24 t199.length co24)) (fun _ h_ => h_.1))) hb) (Kd.R_base ho0)) (Kd.R_base ho1)) (fun _ h_ => h_.1)); replace BK188 := Aside0.mk (blk_below (g := gb188) (o := .cells #[.slice A0_0 l0_0.length c0_0, .slice A0_1 l0_1.length c0_1] 24 (0, 0)) (xff NB188_204.out NB188_204.out BK188.out) hb); replace BK204 := Aside0.mk (blk_below (g := gb204) (o := .cells #[.slice Ao21 t196.length co21, .slice Ao24 t199.length co24] 26 (0, 0)) (by (with_reducible repeat (first | refine blk_drewN ?_ _ | refine blk_drew ?_ | refine blk_alloc ?_ _)); refine blk_put (cs := #[.slice Ao21 t196.length co21, .slice none 0 0]) ?_ 1 _ rfl; (with_reducible repeat (first | refine blk_drewN ?_ _ | refine blk_drew ?_ | refine blk_alloc ?_ _)); refine blk_put (cs := #[.slice none 0 0, .slice none 0 0]) ?_ 0 _ rfl; (with_reducible repeat (first | refine blk_drewN ?_ _ | refine blk_drew ?_ | refine blk_alloc ?_ _)); exact BK204.out) hb); replace HB := xp HB hb; (try clear hb); (try clear hb2); (try clear hk); (try clear hi); (try clear ho0); (try clear ho1)) | ((with_reducible refine gate_dst (N := 7) rfl ?_); refine box_event ?hg (N := 7) ?hd (cs := #[.slice none 0 0, .slice none 0 0]) (t := 26) ?hr ?_; (case hd => rfl); (case hg => rfl); (case hr => first | (go_simp; done) | (go_simp; rfl)); intro gb211 hg w27 hbox hb; replace HO192 := xq HO192 hb; replace HO195 := xq HO195 hb; replace HO198 := xq HO198 hb; replace HO201 := xq HO201 hb; replace HO207 := xq HO207 hb; replace HO210 := xq HO210 hb; have BK211 := Aside0.mk (hbox); have GW211 := xg HB hg; have GE211 := xg HB hg; replace HB := xp HB hb; have NB188_211 := xl BK188 hg; have NB211_188 := xh BK188 hg; replace BK188 := xk BK188 hb; have NB204_211 := xl BK204 hg; have NB211_204 := xh BK204 hg; replace BK204 := xk BK204 hb; clear hb hbox hg; obtain ⟨Ao28, co28, eo28⟩ := Kd.R_slice HO207.out; subst eo28; have hnb29 := NB211_188.out; have hnc29 := NB188_211.out; have hnb30 := NB211_204.out; have hnc30 := NB204_211.out; have hcz31_0 : w27.cell? ⟨gb211, 0, none⟩ = some (.slice none 0 0) := (blk_cell BK211.out 0).trans rfl; have hcz31_1 : w27.cell? ⟨gb211, 1, none⟩ = some (.slice none 0 0) := (blk_cell BK211.out 1).trans rfl; have hfz31_0 := blk_frozen BK211.out 0; have hfz31_1 := blk_frozen BK211.out 1; obtain ⟨Ao32, co32, eo32⟩ := Kd.R_slice HO210.out; subst eo32) | ((with_reducible refine gate_callee (f := 25) rfl ?_); refine goesL_ (some 33) rfl rfl Try.func25 (by kernel_rfl) rfl #[.agg #[.slice Ao28 t205.length co28, .slice Ao32 t208.length co32]] rfl (by (try simp only [List.map_toArray, List.map_cons, List.map_nil]); first | done | rfl | (simp only [List.length_drop, List.length_take]; rfl)) ?_; (with_reducible refine (impl_LeastScale.calls k _ _ t205 _ _ t208 t212 t215 t218 t219 _ ?side1 ?side2 ?side3 ?side4 A10.out).mono ?_); (case side1 => refine (Kd.R_reads' (e := 3) (base := w.heap.size) (ok := fun k_ => ((((nS k_ Ao32 t208.length co32 ∧ nS k_ Ao17 t190.length co17) ∧ nS k_ Ao18 t193.length co18) ∧ nS k_ Ao21 t196.length co21) ∧ nS k_ Ao24 t199.length co24)) (n := t205.length) (c := co28) ?_).2.2; exact (by (with_reducible repeat (first | apply Kd.R_alloc | apply Kd.R_drewN | apply Kd.R_drew)); exact (Kd.R_mono (Kd.R_far (p := ⟨gb211, 1, none⟩) (Kd.R_far (p := ⟨gb211, 0, none⟩) (Kd.R_types HO207.out BK211.out (by decide)) (fun _ hk => hk.2) (.slice Ao28 t205.length co28)) (fun _ hk => hk.2) (.slice Ao32 t208.length co32)) (fun _ h_ => h_.1)))); (case side2 => exact (Kd.R_reads' HO207.out).2.1); (case side3 => refine (Kd.R_reads' (e := 3) (base := w.heap.size) (ok := fun k_ => ((((nS k_ Ao28 t205.length co28 ∧ nS k_ Ao17 t190.length co17) ∧ nS k_ Ao18 t193.length co18) ∧ nS k_ Ao21 t196.length co21) ∧ nS k_ Ao24 t199.length co24)) (n := t208.length) (c := co32) ?_).2.2; exact (by (with_reducible repeat (first | apply Kd.R_alloc | apply Kd.R_drewN | apply Kd.R_drew)); exact (Kd.R_mono (Kd.R_far (p := ⟨gb211, 1, none⟩) (Kd.R_far (p := ⟨gb211, 0, none⟩) (Kd.R_types HO210.out BK211.out (by decide)) (fun _ hk => hk.2) (.slice Ao28 t205.length co28)) (fun _ hk => hk.2) (.slice Ao32 t208.length co32)) (fun _ h_ => h_.1)))); (case side4 => exact (Kd.R_reads' HO210.out).2.1); rintro e w33 ⟨v213, v216, rfl, ho0, ho1, hb⟩; refine ⟨_, rfl, ?_⟩; have HO214 := Aside0.mk (Kd.R_lower (Kd.R_new' (Kd.R_new' (Kd.R_new' (Kd.R_new' (Kd.R_new' (Kd.R_new' ho0 (Kd.R_lt (by (with_reducible repeat (first | apply Kd.R_alloc | apply Kd.R_drewN | apply Kd.R_drew)); exact (Kd.R_mono (Kd.R_far (p := ⟨gb211, 1, none⟩) (Kd.R_far (p := ⟨gb211, 0, none⟩) (Kd.R_types HO192.out BK211.out (by decide)) (fun _ hk => hk.2) (.slice Ao28 t205.length co28)) (fun _ hk => hk.2) (.slice Ao32 t208.length co32)) (fun _ h_ => h_.1))))) (Kd.R_lt (by (with_reducible repeat (first | apply Kd.R_alloc | apply Kd.R_drewN | apply Kd.R_drew)); exact (Kd.R_mono (Kd.R_far (p := ⟨gb211, 1, none⟩) (Kd.R_far (p := ⟨gb211, 0, none⟩) (Kd.R_types HO195.out BK211.out (by decide)) (fun _ hk => hk.2) (.slice Ao28 t205.length co28)) (fun _ hk => hk.2) (.slice Ao32 t208.length co32)) (fun _ h_ => h_.1))))) (Kd.R_lt (by (with_reducible repeat (first | apply Kd.R_alloc | apply Kd.R_drewN | apply Kd.R_drew)); exact (Kd.R_mono (Kd.R_far (p := ⟨gb211, 1, none⟩) (Kd.R_far (p := ⟨gb211, 0, none⟩) (Kd.R_types HO198.out BK211.out (by decide)) (fun _ hk => hk.2) (.slice Ao28 t205.length co28)) (fun _ hk => hk.2) (.slice Ao32 t208.length co32)) (fun _ h_ => h_.1))))) (Kd.R_lt (by (with_reducible repeat (first | apply Kd.R_alloc | apply Kd.R_drewN | apply Kd.R_drew)); exact (Kd.R_mono (Kd.R_far (p := ⟨gb211, 1, none⟩) (Kd.R_far (p := ⟨gb211, 0, none⟩) (Kd.R_types HO201.out BK211.out (by decide)) (fun _ hk => hk.2) (.slice Ao28 t205.length co28)) (fun _ hk => hk.2) (.slice Ao32 t208.length co32)) (fun _ h_ => h_.1))))) (Kd.R_lt (by (with_reducible repeat (first | apply Kd.R_alloc | apply Kd.R_drewN | apply Kd.R_drew)); exact (Kd.R_mono (Kd.R_far (p := ⟨gb211, 1, none⟩) (Kd.R_far (p := ⟨gb211, 0, none⟩) (Kd.R_types HO207.out BK211.out (by decide)) (fun _ hk => hk.2) (.slice Ao28 t205.length co28)) (fun _ hk => hk.2) (.slice Ao32 t208.length co32)) (fun _ h_ => h_.1))))) (Kd.R_lt (by (with_reducible repeat (first | apply Kd.R_alloc | apply Kd.R_drewN | apply Kd.R_drew)); exact (Kd.R_mono (Kd.R_far (p := ⟨gb211, 1, none⟩) (Kd.R_far (p := ⟨gb211, 0, none⟩) (Kd.R_types HO210.out BK211.out (by decide)) (fun _ hk => hk.2) (.slice Ao28 t205.length co28)) (fun _ hk => hk.2) (.slice Ao32 t208.length co32)) (fun _ h_ => h_.1))))) (below_size (xs HB.out))); have HO217 := Aside0.mk (Kd.R_lower (Kd.R_new' (Kd.R_new' (Kd.R_new' (Kd.R_new' (Kd.R_new' (Kd.R_new' ho1 (Kd.R_lt (by (with_reducible repeat (first | apply Kd.R_alloc | apply Kd.R_drewN | apply Kd.R_drew)); exact (Kd.R_mono (Kd.R_far (p := ⟨gb211, 1, none⟩) (Kd.R_far (p := ⟨gb211, 0, none⟩) (Kd.R_types HO192.out BK211.out (by decide)) (fun _ hk => hk.2) (.slice Ao28 t205.length co28)) (fun _ hk => hk.2) (.slice Ao32 t208.length co32)) (fun _ h_ => h_.1))))) (Kd.R_lt (by (with_reducible repeat (first | apply Kd.R_alloc | apply Kd.R_drewN | apply Kd.R_drew)); exact (Kd.R_mono (Kd.R_far (p := ⟨gb211, 1, none⟩) (Kd.R_far (p := ⟨gb211, 0, none⟩) (Kd.R_types HO195.out BK211.out (by decide)) (fun _ hk => hk.2) (.slice Ao28 t205.length co28)) (fun _ hk => hk.2) (.slice Ao32 t208.length co32)) (fun _ h_ => h_.1))))) (Kd.R_lt (by (with_reducible repeat (first | apply Kd.R_alloc | apply Kd.R_drewN | apply Kd.R_drew)); exact (Kd.R_mono (Kd.R_far (p := ⟨gb211, 1, none⟩) (Kd.R_far (p := ⟨gb211, 0, none⟩) (Kd.R_types HO198.out BK211.out (by decide)) (fun _ hk => hk.2) (.slice Ao28 t205.length co28)) (fun _ hk => hk.2) (.slice Ao32 t208.length co32)) (fun _ h_ => h_.1))))) (Kd.R_lt (by (with_reducible repeat (first | apply Kd.R_alloc | apply Kd.R_drewN | apply Kd.R_drew)); exact (Kd.R_mono (Kd.R_far (p := ⟨gb211, 1, none⟩) (Kd.R_far (p := ⟨gb211, 0, none⟩) (Kd.R_types HO201.out BK211.out (by decide)) (fun _ hk => hk.2) (.slice Ao28 t205.length co28)) (fun _ hk => hk.2) (.slice Ao32 t208.length co32)) (fun _ h_ => h_.1))))) (Kd.R_lt (by (with_reducible repeat (first | apply Kd.R_alloc | apply Kd.R_drewN | apply Kd.R_drew)); exact (Kd.R_mono (Kd.R_far (p := ⟨gb211, 1, none⟩) (Kd.R_far (p := ⟨gb211, 0, none⟩) (Kd.R_types HO207.out BK211.out (by decide)) (fun _ hk => hk.2) (.slice Ao28 t205.length co28)) (fun _ hk => hk.2) (.slice Ao32 t208.length co32)) (fun _ h_ => h_.1))))) (Kd.R_lt (by (with_reducible repeat (first | apply Kd.R_alloc | apply Kd.R_drewN | apply Kd.R_drew)); exact (Kd.R_mono (Kd.R_far (p := ⟨gb211, 1, none⟩) (Kd.R_far (p := ⟨gb211, 0, none⟩) (Kd.R_types HO210.out BK211.out (by decide)) (fun _ hk => hk.2) (.slice Ao28 t205.length co28)) (fun _ hk => hk.2) (.slice Ao32 t208.length co32)) (fun _ h_ => h_.1))))) (below_size (xs HB.out))); replace HO192 := Aside0.mk (Kd.R_mono (Kd.R_told (Kd.R_told (Kd.R_old (by (with_reducible repeat (first | apply Kd.R_alloc | apply Kd.R_drewN | apply Kd.R_drew)); exact (Kd.R_mono (Kd.R_far (p := ⟨gb211, 1, none⟩) (Kd.R_far (p := ⟨gb211, 0, none⟩) (Kd.R_types HO192.out BK211.out (by decide)) (fun _ hk => hk.2) (.slice Ao28 t205.length co28)) (fun _ hk => hk.2) (.slice Ao32 t208.length co32)) (fun _ h_ => h_.1))) hb) (Kd.R_base ho0)) (Kd.R_base ho1)) (fun _ h_ => h_.1)); replace HO195 := Aside0.mk (Kd.R_mono (Kd.R_told (Kd.R_told (Kd.R_old (by (with_reducible repeat (first | apply Kd.R_alloc | apply Kd.R_drewN | apply Kd.R_drew)); exact (Kd.R_mono (Kd.R_far (p := ⟨gb211, 1, none⟩) (Kd.R_far (p := ⟨gb211, 0, none⟩) (Kd.R_types HO195.out BK211.out (by decide)) (fun _ hk => hk.2) (.slice Ao28 t205.length co28)) (fun _ hk => hk.2) (.slice Ao32 t208.length co32)) (fun _ h_ => h_.1))) hb) (Kd.R_base ho0)) (Kd.R_base ho1)) (fun _ h_ => h_.1)); replace HO198 := Aside0.mk (Kd.R_mono (Kd.R_told (Kd.R_told (Kd.R_old (by (with_reducible repeat (first | apply Kd.R_alloc | apply Kd.R_drewN | apply Kd.R_drew)); exact (Kd.R_mono (Kd.R_far (p := ⟨gb211, 1, none⟩) (Kd.R_far (p := ⟨gb211, 0, none⟩) (Kd.R_types HO198.out BK211.out (by decide)) (fun _ hk => hk.2) (.slice Ao28 t205.length co28)) (fun _ hk => hk.2) (.slice Ao32 t208.length co32)) (fun _ h_ => h_.1))) hb) (Kd.R_base ho0)) (Kd.R_base ho1)) (fun _ h_ => h_.1)); replace HO201 := Aside0.mk (Kd.R_mono (Kd.R_told (Kd.R_told (Kd.R_old (by (with_reducible repeat (first | apply Kd.R_alloc | apply Kd.R_drewN | apply Kd.R_drew)); exact (Kd.R_mono (Kd.R_far (p := ⟨gb211, 1, none⟩) (Kd.R_far (p := ⟨gb211, 0, none⟩) (Kd.R_types HO201.out BK211.out (by decide)) (fun _ hk => hk.2) (.slice Ao28 t205.length co28)) (fun _ hk => hk.2) (.slice Ao32 t208.length co32)) (fun _ h_ => h_.1))) hb) (Kd.R_base ho0)) (Kd.R_base ho1)) (fun _ h_ => h_.1)); replace HO207 := Aside0.mk (Kd.R_mono (Kd.R_told (Kd.R_told (Kd.R_old (by (with_reducible repeat (first | apply Kd.R_alloc | apply Kd.R_drewN | apply Kd.R_drew)); exact (Kd.R_mono (Kd.R_far (p := ⟨gb211, 1, none⟩) (Kd.R_far (p := ⟨gb211, 0, none⟩) (Kd.R_types HO207.out BK211.out (by decide)) (fun _ hk => hk.2) (.slice Ao28 t205.length co28)) (fun _ hk => hk.2) (.slice Ao32 t208.length co32)) (fun _ h_ => h_.1))) hb) (Kd.R_base ho0)) (Kd.R_base ho1)) (fun _ h_ => h_.1)); replace HO210 := Aside0.mk (Kd.R_mono (Kd.R_told (Kd.R_told (Kd.R_old (by (with_reducible repeat (first | apply Kd.R_alloc | apply Kd.R_drewN | apply Kd.R_drew)); exact (Kd.R_mono (Kd.R_far (p := ⟨gb211, 1, none⟩) (Kd.R_far (p := ⟨gb211, 0, none⟩) (Kd.R_types HO210.out BK211.out (by decide)) (fun _ hk => hk.2) (.slice Ao28 t205.length co28)) (fun _ hk => hk.2) (.slice Ao32 t208.length co32)) (fun _ h_ => h_.1))) hb) (Kd.R_base ho0)) (Kd.R_base ho1)) (fun _ h_ => h_.1)); replace BK188 := Aside0.mk (blk_below (g := gb188) (o := .cells #[.slice A0_0 l0_0.length c0_0, .slice A0_1 l0_1.length c0_1] 24 (0, 0)) (xff NB188_211.out NB188_211.out BK188.out) hb); replace BK204 := Aside0.mk (blk_below (g := gb204) (o := .cells #[.slice Ao21 t196.length co21, .slice Ao24 t199.length co24] 26 (0, 0)) (xff NB204_211.out NB204_211.out BK204.out) hb); replace BK211 := Aside0.mk (blk_below (g := gb211) (o := .cells #[.slice Ao28 t205.length co28, .slice Ao32 t208.length co32] 26 (0, 0)) (by (with_reducible repeat (first | refine blk_drewN ?_ _ | refine blk_drew ?_ | refine blk_alloc ?_ _)); refine blk_put (cs := #[.slice Ao28 t205.length co28, .slice none 0 0]) ?_ 1 _ rfl; (with_reducible repeat (first | refine blk_drewN ?_ _ | refine blk_drew ?_ | refine blk_alloc ?_ _)); refine blk_put (cs := #[.slice none 0 0, .slice none 0 0]) ?_ 0 _ rfl; (with_reducible repeat (first | refine blk_drewN ?_ _ | refine blk_drew ?_ | refine blk_alloc ?_ _)); exact BK211.out) hb); replace HB := xp HB hb; (try clear hb); (try clear hb2); (try clear hk); (try clear hi); (try clear ho0); (try clear ho1)) | ((with_reducible refine gate_dst (N := 8) rfl ?_); refine box_event ?hg (N := 8) ?hd (cs := #[.slice none 0 0, .slice none 0 0]) (t := 26) ?hr ?_; (case hd => rfl); (case hg => rfl); (case hr => first | (go_simp; done) | (go_simp; rfl)); intro gb220 hg w34 hbox hb; replace HO192 := xq HO192 hb; replace HO195 := xq HO195 hb; replace HO198 := xq HO198 hb; replace HO201 := xq HO201 hb; replace HO207 := xq HO207 hb; replace HO210 := xq HO210 hb; replace HO214 := xq HO214 hb; replace HO217 := xq HO217 hb; have BK220 := Aside0.mk (hbox); have GW220 := xg HB hg; have GE220 := xg HB hg; replace HB := xp HB hb; have NB188_220 := xl BK188 hg; have NB220_188 := xh BK188 hg; replace BK188 := xk BK188 hb; have NB204_220 := xl BK204 hg; have NB220_204 := xh BK204 hg; replace BK204 := xk BK204 hb; have NB211_220 := xl BK211 hg; have NB220_211 := xh BK211 hg; replace BK211 := xk BK211 hb; clear hb hbox hg; obtain ⟨Ao35, co35, eo35⟩ := Kd.R_slice HO214.out; subst eo35; have hnb36 := NB220_188.out; have hnc36 := NB188_220.out; have hnb37 := NB220_204.out; have hnc37 := NB204_220.out; have hnb38 := NB220_211.out; have hnc38 := NB211_220.out; have hcz39_0 : w34.cell? ⟨gb220, 0, none⟩ = some (.slice none 0 0) := (blk_cell BK220.out 0).trans rfl; have hcz39_1 : w34.cell? ⟨gb220, 1, none⟩ = some (.slice none 0 0) := (blk_cell BK220.out 1).trans rfl; have hfz39_0 := blk_frozen BK220.out 0; have hfz39_1 := blk_frozen BK220.out 1; obtain ⟨Ao40, co40, eo40⟩ := Kd.R_slice HO217.out; subst eo40))
  (try simp only [Act.put, List.setIfInBounds_toArray, List.set_cons_zero, List.set_cons_succ])
  go_cut [50] (fun v50 wc => ∃ (kq : Nat) (x50_10 : Bool), v50 = .bool x50_10 ∧ Aside0 (laws_FnExactLeastScale.j0 kq t202 t203 t218 t219 x50_10 l0_0 l0_1 t196 t199 t205 t208 t212 t215 = some true) ∧ Aside0 (kq ≤ k) ∧ Aside0 (Kd.R (Kd.int .i64) 3 wc w.heap.size (fun k_ => nS k_ Ao24 t199.length co24 ∧ nS k_ Ao28 t205.length co28 ∧ nS k_ Ao32 t208.length co32 ∧ nS k_ Ao35 t212.length co35 ∧ nS k_ Ao40 t215.length co40) (.slice Ao21 t196.length co21) t196) ∧ Aside0 (Kd.R (Kd.int .i64) 3 wc w.heap.size (fun k_ => nS k_ Ao21 t196.length co21 ∧ nS k_ Ao28 t205.length co28 ∧ nS k_ Ao32 t208.length co32 ∧ nS k_ Ao35 t212.length co35 ∧ nS k_ Ao40 t215.length co40) (.slice Ao24 t199.length co24) t199) ∧ Aside0 (Kd.R (Kd.int .i64) 3 wc w.heap.size (fun k_ => nS k_ Ao21 t196.length co21 ∧ nS k_ Ao24 t199.length co24 ∧ nS k_ Ao32 t208.length co32 ∧ nS k_ Ao35 t212.length co35 ∧ nS k_ Ao40 t215.length co40) (.slice Ao28 t205.length co28) t205) ∧ Aside0 (Kd.R (Kd.int .i64) 3 wc w.heap.size (fun k_ => nS k_ Ao21 t196.length co21 ∧ nS k_ Ao24 t199.length co24 ∧ nS k_ Ao28 t205.length co28 ∧ nS k_ Ao35 t212.length co35 ∧ nS k_ Ao40 t215.length co40) (.slice Ao32 t208.length co32) t208) ∧ Aside0 (Kd.R (Kd.int .i64) 3 wc w.heap.size (fun k_ => nS k_ Ao21 t196.length co21 ∧ nS k_ Ao24 t199.length co24 ∧ nS k_ Ao28 t205.length co28 ∧ nS k_ Ao32 t208.length co32 ∧ nS k_ Ao40 t215.length co40) (.slice Ao35 t212.length co35) t212) ∧ Aside0 (Kd.R (Kd.int .i64) 3 wc w.heap.size (fun k_ => nS k_ Ao21 t196.length co21 ∧ nS k_ Ao24 t199.length co24 ∧ nS k_ Ao28 t205.length co28 ∧ nS k_ Ao32 t208.length co32 ∧ nS k_ Ao35 t212.length co35) (.slice Ao40 t215.length co40) t215) ∧ Aside0 (wc.heap[gb188]? = some (.cells #[(.slice A0_0 l0_0.length c0_0), (.slice A0_1 l0_1.length c0_1)] 24 (0, 0))) ∧ Aside0 (wc.heap[gb204]? = some (.cells #[(.slice Ao21 t196.length co21), (.slice Ao24 t199.length co24)] 26 (0, 0))) ∧ Aside0 (wc.heap[gb211]? = some (.cells #[(.slice Ao28 t205.length co28), (.slice Ao32 t208.length co32)] 26 (0, 0))) ∧ Aside0 (wc.heap[gb220]? = some (.cells #[(.slice Ao35 t212.length co35), (.slice Ao40 t215.length co40)] 26 (0, 0))) ∧ Aside0 (Below w.heap.size w wc))
  case first =>
   have H := HC11.out
   clear HC11
   replace H := Option.bind_eq_some_iff.mp H
   obtain ⟨t221, A410, H⟩ := H
   replace H : (if t221 = true then (if t218 = t202 then (laws_FnExactLeastScale.j0 k t202 t203 t218 t219 (t219 != t203) l0_0 l0_1 t196 t199 t205 t208 t212 t215) else (laws_FnExactLeastScale.j0 k t202 t203 t218 t219 true l0_0 l0_1 t196 t199 t205 t208 t212 t215)) else (laws_FnExactLeastScale.j0 k t202 t203 t218 t219 true l0_0 l0_1 t196 t199 t205 t208 t212 t215)) = some true := H
   have A41 := Aside0.mk A410
   clear A410
   by_cases c42 : t221 = true
   ·subst c42
    have H1 : (if t218 = t202 then (laws_FnExactLeastScale.j0 k t202 t203 t218 t219 (t219 != t203) l0_0 l0_1 t196 t199 t205 t208 t212 t215) else (laws_FnExactLeastScale.j0 k t202 t203 t218 t219 true l0_0 l0_1 t196 t199 t205 t208 t212 t215)) = some true := by first | (rw [if_pos rfl] at H; exact H) | rfl
    clear H
    have H := H1
    clear H1
    by_cases c43 : t218 = t202
    ·rw [if_pos c43] at H
     have c43b0 : (t218 == t202) = true := beq_iff_eq.mpr c43
     have c43b1 : (t218 != t202) = false := bne_eq_false_iff_eq.mpr c43
     clear c43
     (first | rw [c43b0] | (simp only [i64_w, i32_w]; rw [c43b0]) | skip)
     have H' := Aside0.mk H
     clear H
     have hnb44 := NB220_188.out
     have hnc44 := NB188_220.out
     have hnb45 := NB220_204.out
     have hnc45 := NB204_220.out
     have hnb46 := NB220_211.out
     have hnc46 := NB211_220.out
     have hcz47_0 : w34.cell? ⟨gb220, 0, none⟩ = some (.slice none 0 0) := (blk_cell BK220.out 0).trans rfl
     have hcz47_1 : w34.cell? ⟨gb220, 1, none⟩ = some (.slice none 0 0) := (blk_cell BK220.out 1).trans rfl
     have hfz47_0 := blk_frozen BK220.out 0
     have hfz47_1 := blk_frozen BK220.out 1
     have hnb48 := NB204_188.out
     have hnc48 := NB188_204.out
     have hnb49 := NB204_211.out
     have hnc49 := NB211_204.out
     have hcz50_0 : w34.cell? ⟨gb204, 0, none⟩ = some (.slice Ao21 t196.length co21) := (blk_cell BK204.out 0).trans rfl
     have hcz50_1 : w34.cell? ⟨gb204, 1, none⟩ = some (.slice Ao24 t199.length co24) := (blk_cell BK204.out 1).trans rfl
     have hfz50_0 := blk_frozen BK204.out 0
     have hfz50_1 := blk_frozen BK204.out 1
     go_wp2_with (first | ((with_reducible refine gate_callee (f := 19) rfl ?_); refine goesL_ (some 39) rfl rfl Try.func19 (by kernel_rfl) rfl #[.agg #[.slice Ao35 t212.length co35, .slice Ao40 t215.length co40], .agg #[.slice Ao21 t196.length co21, .slice Ao24 t199.length co24]] rfl (by (try simp only [List.map_toArray, List.map_cons, List.map_nil]); first | done | rfl | (simp only [List.length_drop, List.length_take]; rfl)) ?_; (with_reducible refine (laws_eqVessels.calls k _ _ t212 _ _ t215 _ _ t196 _ _ t199 true _ ?side1 ?side2 ?side3 ?side4 ?side5 ?side6 ?side7 ?side8 A41.out).mono ?_); (case side1 => refine (Kd.R_reads' (e := 3) (base := w.heap.size) (ok := fun k_ => ((((((nS k_ Ao40 t215.length co40 ∧ nS k_ Ao17 t190.length co17) ∧ nS k_ Ao18 t193.length co18) ∧ nS k_ Ao21 t196.length co21) ∧ nS k_ Ao24 t199.length co24) ∧ nS k_ Ao28 t205.length co28) ∧ nS k_ Ao32 t208.length co32)) (n := t212.length) (c := co35) ?_).2.2; exact (by (with_reducible repeat (first | apply Kd.R_alloc | apply Kd.R_drewN | apply Kd.R_drew)); exact (Kd.R_mono (Kd.R_far (p := ⟨gb220, 1, none⟩) (Kd.R_far (p := ⟨gb220, 0, none⟩) (Kd.R_types HO214.out BK220.out (by decide)) (fun _ hk => hk.2) (.slice Ao35 t212.length co35)) (fun _ hk => hk.2) (.slice Ao40 t215.length co40)) (fun _ h_ => h_.1)))); (case side2 => exact (Kd.R_reads' HO214.out).2.1); (case side3 => refine (Kd.R_reads' (e := 3) (base := w.heap.size) (ok := fun k_ => ((((((nS k_ Ao35 t212.length co35 ∧ nS k_ Ao17 t190.length co17) ∧ nS k_ Ao18 t193.length co18) ∧ nS k_ Ao21 t196.length co21) ∧ nS k_ Ao24 t199.length co24) ∧ nS k_ Ao28 t205.length co28) ∧ nS k_ Ao32 t208.length co32)) (n := t215.length) (c := co40) ?_).2.2; exact (by (with_reducible repeat (first | apply Kd.R_alloc | apply Kd.R_drewN | apply Kd.R_drew)); exact (Kd.R_mono (Kd.R_far (p := ⟨gb220, 1, none⟩) (Kd.R_far (p := ⟨gb220, 0, none⟩) (Kd.R_types HO217.out BK220.out (by decide)) (fun _ hk => hk.2) (.slice Ao35 t212.length co35)) (fun _ hk => hk.2) (.slice Ao40 t215.length co40)) (fun _ h_ => h_.1)))); (case side4 => exact (Kd.R_reads' HO217.out).2.1); (case side5 => refine (Kd.R_reads' (e := 3) (base := w.heap.size) (ok := fun k_ => ((((((nS k_ Ao24 t199.length co24 ∧ nS k_ Ao17 t190.length co17) ∧ nS k_ Ao18 t193.length co18) ∧ nS k_ Ao28 t205.length co28) ∧ nS k_ Ao32 t208.length co32) ∧ nS k_ Ao35 t212.length co35) ∧ nS k_ Ao40 t215.length co40)) (n := t196.length) (c := co21) ?_).2.2; exact (by (with_reducible repeat (first | apply Kd.R_alloc | apply Kd.R_drewN | apply Kd.R_drew)); exact (Kd.R_mono (Kd.R_far (p := ⟨gb220, 1, none⟩) (Kd.R_far (p := ⟨gb220, 0, none⟩) (Kd.R_types HO198.out BK220.out (by decide)) (fun _ hk => hk.2) (.slice Ao35 t212.length co35)) (fun _ hk => hk.2) (.slice Ao40 t215.length co40)) (fun _ h_ => h_.1)))); (case side6 => exact (Kd.R_reads' HO198.out).2.1); (case side7 => refine (Kd.R_reads' (e := 3) (base := w.heap.size) (ok := fun k_ => ((((((nS k_ Ao21 t196.length co21 ∧ nS k_ Ao17 t190.length co17) ∧ nS k_ Ao18 t193.length co18) ∧ nS k_ Ao28 t205.length co28) ∧ nS k_ Ao32 t208.length co32) ∧ nS k_ Ao35 t212.length co35) ∧ nS k_ Ao40 t215.length co40)) (n := t199.length) (c := co24) ?_).2.2; exact (by (with_reducible repeat (first | apply Kd.R_alloc | apply Kd.R_drewN | apply Kd.R_drew)); exact (Kd.R_mono (Kd.R_far (p := ⟨gb220, 1, none⟩) (Kd.R_far (p := ⟨gb220, 0, none⟩) (Kd.R_types HO201.out BK220.out (by decide)) (fun _ hk => hk.2) (.slice Ao35 t212.length co35)) (fun _ hk => hk.2) (.slice Ao40 t215.length co40)) (fun _ h_ => h_.1)))); (case side8 => exact (Kd.R_reads' HO201.out).2.1); rintro e w51 ⟨rfl, hb⟩; refine ⟨_, rfl, ?_⟩; replace HO192 := Aside0.mk (Kd.R_below (by (with_reducible repeat (first | apply Kd.R_alloc | apply Kd.R_drewN | apply Kd.R_drew)); exact (Kd.R_mono (Kd.R_far (p := ⟨gb220, 1, none⟩) (Kd.R_far (p := ⟨gb220, 0, none⟩) (Kd.R_types HO192.out BK220.out (by decide)) (fun _ hk => hk.2) (.slice Ao35 t212.length co35)) (fun _ hk => hk.2) (.slice Ao40 t215.length co40)) (fun _ h_ => h_.1))) hb); replace HO195 := Aside0.mk (Kd.R_below (by (with_reducible repeat (first | apply Kd.R_alloc | apply Kd.R_drewN | apply Kd.R_drew)); exact (Kd.R_mono (Kd.R_far (p := ⟨gb220, 1, none⟩) (Kd.R_far (p := ⟨gb220, 0, none⟩) (Kd.R_types HO195.out BK220.out (by decide)) (fun _ hk => hk.2) (.slice Ao35 t212.length co35)) (fun _ hk => hk.2) (.slice Ao40 t215.length co40)) (fun _ h_ => h_.1))) hb); replace HO198 := Aside0.mk (Kd.R_below (by (with_reducible repeat (first | apply Kd.R_alloc | apply Kd.R_drewN | apply Kd.R_drew)); exact (Kd.R_mono (Kd.R_far (p := ⟨gb220, 1, none⟩) (Kd.R_far (p := ⟨gb220, 0, none⟩) (Kd.R_types HO198.out BK220.out (by decide)) (fun _ hk => hk.2) (.slice Ao35 t212.length co35)) (fun _ hk => hk.2) (.slice Ao40 t215.length co40)) (fun _ h_ => h_.1))) hb); replace HO201 := Aside0.mk (Kd.R_below (by (with_reducible repeat (first | apply Kd.R_alloc | apply Kd.R_drewN | apply Kd.R_drew)); exact (Kd.R_mono (Kd.R_far (p := ⟨gb220, 1, none⟩) (Kd.R_far (p := ⟨gb220, 0, none⟩) (Kd.R_types HO201.out BK220.out (by decide)) (fun _ hk => hk.2) (.slice Ao35 t212.length co35)) (fun _ hk => hk.2) (.slice Ao40 t215.length co40)) (fun _ h_ => h_.1))) hb); replace HO207 := Aside0.mk (Kd.R_below (by (with_reducible repeat (first | apply Kd.R_alloc | apply Kd.R_drewN | apply Kd.R_drew)); exact (Kd.R_mono (Kd.R_far (p := ⟨gb220, 1, none⟩) (Kd.R_far (p := ⟨gb220, 0, none⟩) (Kd.R_types HO207.out BK220.out (by decide)) (fun _ hk => hk.2) (.slice Ao35 t212.length co35)) (fun _ hk => hk.2) (.slice Ao40 t215.length co40)) (fun _ h_ => h_.1))) hb); replace HO210 := Aside0.mk (Kd.R_below (by (with_reducible repeat (first | apply Kd.R_alloc | apply Kd.R_drewN | apply Kd.R_drew)); exact (Kd.R_mono (Kd.R_far (p := ⟨gb220, 1, none⟩) (Kd.R_far (p := ⟨gb220, 0, none⟩) (Kd.R_types HO210.out BK220.out (by decide)) (fun _ hk => hk.2) (.slice Ao35 t212.length co35)) (fun _ hk => hk.2) (.slice Ao40 t215.length co40)) (fun _ h_ => h_.1))) hb); replace HO214 := Aside0.mk (Kd.R_below (by (with_reducible repeat (first | apply Kd.R_alloc | apply Kd.R_drewN | apply Kd.R_drew)); exact (Kd.R_mono (Kd.R_far (p := ⟨gb220, 1, none⟩) (Kd.R_far (p := ⟨gb220, 0, none⟩) (Kd.R_types HO214.out BK220.out (by decide)) (fun _ hk => hk.2) (.slice Ao35 t212.length co35)) (fun _ hk => hk.2) (.slice Ao40 t215.length co40)) (fun _ h_ => h_.1))) hb); replace HO217 := Aside0.mk (Kd.R_below (by (with_reducible repeat (first | apply Kd.R_alloc | apply Kd.R_drewN | apply Kd.R_drew)); exact (Kd.R_mono (Kd.R_far (p := ⟨gb220, 1, none⟩) (Kd.R_far (p := ⟨gb220, 0, none⟩) (Kd.R_types HO217.out BK220.out (by decide)) (fun _ hk => hk.2) (.slice Ao35 t212.length co35)) (fun _ hk => hk.2) (.slice Ao40 t215.length co40)) (fun _ h_ => h_.1))) hb); replace BK188 := Aside0.mk (blk_below (g := gb188) (o := .cells #[.slice A0_0 l0_0.length c0_0, .slice A0_1 l0_1.length c0_1] 24 (0, 0)) (xff NB188_220.out NB188_220.out BK188.out) hb); replace BK204 := Aside0.mk (blk_below (g := gb204) (o := .cells #[.slice Ao21 t196.length co21, .slice Ao24 t199.length co24] 26 (0, 0)) (xff NB204_220.out NB204_220.out BK204.out) hb); replace BK211 := Aside0.mk (blk_below (g := gb211) (o := .cells #[.slice Ao28 t205.length co28, .slice Ao32 t208.length co32] 26 (0, 0)) (xff NB211_220.out NB211_220.out BK211.out) hb); replace BK220 := Aside0.mk (blk_below (g := gb220) (o := .cells #[.slice Ao35 t212.length co35, .slice Ao40 t215.length co40] 26 (0, 0)) (by (with_reducible repeat (first | refine blk_drewN ?_ _ | refine blk_drew ?_ | refine blk_alloc ?_ _)); refine blk_put (cs := #[.slice Ao35 t212.length co35, .slice none 0 0]) ?_ 1 _ rfl; (with_reducible repeat (first | refine blk_drewN ?_ _ | refine blk_drew ?_ | refine blk_alloc ?_ _)); refine blk_put (cs := #[.slice none 0 0, .slice none 0 0]) ?_ 0 _ rfl; (with_reducible repeat (first | refine blk_drewN ?_ _ | refine blk_drew ?_ | refine blk_alloc ?_ _)); exact BK220.out) hb); replace HB := xp HB hb; (try clear hb); (try clear hb2); (try clear hk); (try clear hi)))
     go_meet
     case rel => exact ⟨_, ((t219 != t203)), (by first | rfl | (simp; done) | (simp [*]; done)), H', ⟨by first | omega | exact Nat.le_refl _⟩, ⟨xm HO198 (fun _ hk => ⟨hk.1.1.1.1.1.1, ⟨hk.1.1.1.2, ⟨hk.1.1.2, ⟨hk.1.2, hk.2⟩⟩⟩⟩)⟩, ⟨xm HO201 (fun _ hk => ⟨hk.1.1.1.1.1.1, ⟨hk.1.1.1.2, ⟨hk.1.1.2, ⟨hk.1.2, hk.2⟩⟩⟩⟩)⟩, ⟨xm HO207 (fun _ hk => ⟨hk.1.1.1.2, ⟨hk.1.1.2, ⟨hk.1.1.1.1.1.1, ⟨hk.1.2, hk.2⟩⟩⟩⟩)⟩, ⟨xm HO210 (fun _ hk => ⟨hk.1.1.1.2, ⟨hk.1.1.2, ⟨hk.1.1.1.1.1.1, ⟨hk.1.2, hk.2⟩⟩⟩⟩)⟩, ⟨xm HO214 (fun _ hk => ⟨hk.1.1.1.2, ⟨hk.1.1.2, ⟨hk.1.2, ⟨hk.2, hk.1.1.1.1.1.1⟩⟩⟩⟩)⟩, ⟨xm HO217 (fun _ hk => ⟨hk.1.1.1.2, ⟨hk.1.1.2, ⟨hk.1.2, ⟨hk.2, hk.1.1.1.1.1.1⟩⟩⟩⟩)⟩, ⟨xb BK188.out⟩, ⟨xb BK204.out⟩, ⟨xb BK211.out⟩, ⟨xb BK220.out⟩, ⟨xs HB.out⟩⟩
    ·rw [if_neg c43] at H
     have c43b0 : (t218 == t202) = false := beq_eq_false_iff_ne.mpr c43
     have c43b1 : (t218 != t202) = true := bne_iff_ne.mpr c43
     (first | rw [c43b0] | (simp only [i64_w, i32_w]; rw [c43b0]) | skip)
     have H' := Aside0.mk H
     clear H
     have hnb52 := NB220_188.out
     have hnc52 := NB188_220.out
     have hnb53 := NB220_204.out
     have hnc53 := NB204_220.out
     have hnb54 := NB220_211.out
     have hnc54 := NB211_220.out
     have hcz55_0 : w34.cell? ⟨gb220, 0, none⟩ = some (.slice none 0 0) := (blk_cell BK220.out 0).trans rfl
     have hcz55_1 : w34.cell? ⟨gb220, 1, none⟩ = some (.slice none 0 0) := (blk_cell BK220.out 1).trans rfl
     have hfz55_0 := blk_frozen BK220.out 0
     have hfz55_1 := blk_frozen BK220.out 1
     have hnb56 := NB204_188.out
     have hnc56 := NB188_204.out
     have hnb57 := NB204_211.out
     have hnc57 := NB211_204.out
     have hcz58_0 : w34.cell? ⟨gb204, 0, none⟩ = some (.slice Ao21 t196.length co21) := (blk_cell BK204.out 0).trans rfl
     have hcz58_1 : w34.cell? ⟨gb204, 1, none⟩ = some (.slice Ao24 t199.length co24) := (blk_cell BK204.out 1).trans rfl
     have hfz58_0 := blk_frozen BK204.out 0
     have hfz58_1 := blk_frozen BK204.out 1
     go_wp2_with (first | ((with_reducible refine gate_callee (f := 19) rfl ?_); refine goesL_ (some 39) rfl rfl Try.func19 (by kernel_rfl) rfl #[.agg #[.slice Ao35 t212.length co35, .slice Ao40 t215.length co40], .agg #[.slice Ao21 t196.length co21, .slice Ao24 t199.length co24]] rfl (by (try simp only [List.map_toArray, List.map_cons, List.map_nil]); first | done | rfl | (simp only [List.length_drop, List.length_take]; rfl)) ?_; (with_reducible refine (laws_eqVessels.calls k _ _ t212 _ _ t215 _ _ t196 _ _ t199 true _ ?side1 ?side2 ?side3 ?side4 ?side5 ?side6 ?side7 ?side8 A41.out).mono ?_); (case side1 => refine (Kd.R_reads' (e := 3) (base := w.heap.size) (ok := fun k_ => ((((((nS k_ Ao40 t215.length co40 ∧ nS k_ Ao17 t190.length co17) ∧ nS k_ Ao18 t193.length co18) ∧ nS k_ Ao21 t196.length co21) ∧ nS k_ Ao24 t199.length co24) ∧ nS k_ Ao28 t205.length co28) ∧ nS k_ Ao32 t208.length co32)) (n := t212.length) (c := co35) ?_).2.2; exact (by (with_reducible repeat (first | apply Kd.R_alloc | apply Kd.R_drewN | apply Kd.R_drew)); exact (Kd.R_mono (Kd.R_far (p := ⟨gb220, 1, none⟩) (Kd.R_far (p := ⟨gb220, 0, none⟩) (Kd.R_types HO214.out BK220.out (by decide)) (fun _ hk => hk.2) (.slice Ao35 t212.length co35)) (fun _ hk => hk.2) (.slice Ao40 t215.length co40)) (fun _ h_ => h_.1)))); (case side2 => exact (Kd.R_reads' HO214.out).2.1); (case side3 => refine (Kd.R_reads' (e := 3) (base := w.heap.size) (ok := fun k_ => ((((((nS k_ Ao35 t212.length co35 ∧ nS k_ Ao17 t190.length co17) ∧ nS k_ Ao18 t193.length co18) ∧ nS k_ Ao21 t196.length co21) ∧ nS k_ Ao24 t199.length co24) ∧ nS k_ Ao28 t205.length co28) ∧ nS k_ Ao32 t208.length co32)) (n := t215.length) (c := co40) ?_).2.2; exact (by (with_reducible repeat (first | apply Kd.R_alloc | apply Kd.R_drewN | apply Kd.R_drew)); exact (Kd.R_mono (Kd.R_far (p := ⟨gb220, 1, none⟩) (Kd.R_far (p := ⟨gb220, 0, none⟩) (Kd.R_types HO217.out BK220.out (by decide)) (fun _ hk => hk.2) (.slice Ao35 t212.length co35)) (fun _ hk => hk.2) (.slice Ao40 t215.length co40)) (fun _ h_ => h_.1)))); (case side4 => exact (Kd.R_reads' HO217.out).2.1); (case side5 => refine (Kd.R_reads' (e := 3) (base := w.heap.size) (ok := fun k_ => ((((((nS k_ Ao24 t199.length co24 ∧ nS k_ Ao17 t190.length co17) ∧ nS k_ Ao18 t193.length co18) ∧ nS k_ Ao28 t205.length co28) ∧ nS k_ Ao32 t208.length co32) ∧ nS k_ Ao35 t212.length co35) ∧ nS k_ Ao40 t215.length co40)) (n := t196.length) (c := co21) ?_).2.2; exact (by (with_reducible repeat (first | apply Kd.R_alloc | apply Kd.R_drewN | apply Kd.R_drew)); exact (Kd.R_mono (Kd.R_far (p := ⟨gb220, 1, none⟩) (Kd.R_far (p := ⟨gb220, 0, none⟩) (Kd.R_types HO198.out BK220.out (by decide)) (fun _ hk => hk.2) (.slice Ao35 t212.length co35)) (fun _ hk => hk.2) (.slice Ao40 t215.length co40)) (fun _ h_ => h_.1)))); (case side6 => exact (Kd.R_reads' HO198.out).2.1); (case side7 => refine (Kd.R_reads' (e := 3) (base := w.heap.size) (ok := fun k_ => ((((((nS k_ Ao21 t196.length co21 ∧ nS k_ Ao17 t190.length co17) ∧ nS k_ Ao18 t193.length co18) ∧ nS k_ Ao28 t205.length co28) ∧ nS k_ Ao32 t208.length co32) ∧ nS k_ Ao35 t212.length co35) ∧ nS k_ Ao40 t215.length co40)) (n := t199.length) (c := co24) ?_).2.2; exact (by (with_reducible repeat (first | apply Kd.R_alloc | apply Kd.R_drewN | apply Kd.R_drew)); exact (Kd.R_mono (Kd.R_far (p := ⟨gb220, 1, none⟩) (Kd.R_far (p := ⟨gb220, 0, none⟩) (Kd.R_types HO201.out BK220.out (by decide)) (fun _ hk => hk.2) (.slice Ao35 t212.length co35)) (fun _ hk => hk.2) (.slice Ao40 t215.length co40)) (fun _ h_ => h_.1)))); (case side8 => exact (Kd.R_reads' HO201.out).2.1); rintro e w59 ⟨rfl, hb⟩; refine ⟨_, rfl, ?_⟩; replace HO192 := Aside0.mk (Kd.R_below (by (with_reducible repeat (first | apply Kd.R_alloc | apply Kd.R_drewN | apply Kd.R_drew)); exact (Kd.R_mono (Kd.R_far (p := ⟨gb220, 1, none⟩) (Kd.R_far (p := ⟨gb220, 0, none⟩) (Kd.R_types HO192.out BK220.out (by decide)) (fun _ hk => hk.2) (.slice Ao35 t212.length co35)) (fun _ hk => hk.2) (.slice Ao40 t215.length co40)) (fun _ h_ => h_.1))) hb); replace HO195 := Aside0.mk (Kd.R_below (by (with_reducible repeat (first | apply Kd.R_alloc | apply Kd.R_drewN | apply Kd.R_drew)); exact (Kd.R_mono (Kd.R_far (p := ⟨gb220, 1, none⟩) (Kd.R_far (p := ⟨gb220, 0, none⟩) (Kd.R_types HO195.out BK220.out (by decide)) (fun _ hk => hk.2) (.slice Ao35 t212.length co35)) (fun _ hk => hk.2) (.slice Ao40 t215.length co40)) (fun _ h_ => h_.1))) hb); replace HO198 := Aside0.mk (Kd.R_below (by (with_reducible repeat (first | apply Kd.R_alloc | apply Kd.R_drewN | apply Kd.R_drew)); exact (Kd.R_mono (Kd.R_far (p := ⟨gb220, 1, none⟩) (Kd.R_far (p := ⟨gb220, 0, none⟩) (Kd.R_types HO198.out BK220.out (by decide)) (fun _ hk => hk.2) (.slice Ao35 t212.length co35)) (fun _ hk => hk.2) (.slice Ao40 t215.length co40)) (fun _ h_ => h_.1))) hb); replace HO201 := Aside0.mk (Kd.R_below (by (with_reducible repeat (first | apply Kd.R_alloc | apply Kd.R_drewN | apply Kd.R_drew)); exact (Kd.R_mono (Kd.R_far (p := ⟨gb220, 1, none⟩) (Kd.R_far (p := ⟨gb220, 0, none⟩) (Kd.R_types HO201.out BK220.out (by decide)) (fun _ hk => hk.2) (.slice Ao35 t212.length co35)) (fun _ hk => hk.2) (.slice Ao40 t215.length co40)) (fun _ h_ => h_.1))) hb); replace HO207 := Aside0.mk (Kd.R_below (by (with_reducible repeat (first | apply Kd.R_alloc | apply Kd.R_drewN | apply Kd.R_drew)); exact (Kd.R_mono (Kd.R_far (p := ⟨gb220, 1, none⟩) (Kd.R_far (p := ⟨gb220, 0, none⟩) (Kd.R_types HO207.out BK220.out (by decide)) (fun _ hk => hk.2) (.slice Ao35 t212.length co35)) (fun _ hk => hk.2) (.slice Ao40 t215.length co40)) (fun _ h_ => h_.1))) hb); replace HO210 := Aside0.mk (Kd.R_below (by (with_reducible repeat (first | apply Kd.R_alloc | apply Kd.R_drewN | apply Kd.R_drew)); exact (Kd.R_mono (Kd.R_far (p := ⟨gb220, 1, none⟩) (Kd.R_far (p := ⟨gb220, 0, none⟩) (Kd.R_types HO210.out BK220.out (by decide)) (fun _ hk => hk.2) (.slice Ao35 t212.length co35)) (fun _ hk => hk.2) (.slice Ao40 t215.length co40)) (fun _ h_ => h_.1))) hb); replace HO214 := Aside0.mk (Kd.R_below (by (with_reducible repeat (first | apply Kd.R_alloc | apply Kd.R_drewN | apply Kd.R_drew)); exact (Kd.R_mono (Kd.R_far (p := ⟨gb220, 1, none⟩) (Kd.R_far (p := ⟨gb220, 0, none⟩) (Kd.R_types HO214.out BK220.out (by decide)) (fun _ hk => hk.2) (.slice Ao35 t212.length co35)) (fun _ hk => hk.2) (.slice Ao40 t215.length co40)) (fun _ h_ => h_.1))) hb); replace HO217 := Aside0.mk (Kd.R_below (by (with_reducible repeat (first | apply Kd.R_alloc | apply Kd.R_drewN | apply Kd.R_drew)); exact (Kd.R_mono (Kd.R_far (p := ⟨gb220, 1, none⟩) (Kd.R_far (p := ⟨gb220, 0, none⟩) (Kd.R_types HO217.out BK220.out (by decide)) (fun _ hk => hk.2) (.slice Ao35 t212.length co35)) (fun _ hk => hk.2) (.slice Ao40 t215.length co40)) (fun _ h_ => h_.1))) hb); replace BK188 := Aside0.mk (blk_below (g := gb188) (o := .cells #[.slice A0_0 l0_0.length c0_0, .slice A0_1 l0_1.length c0_1] 24 (0, 0)) (xff NB188_220.out NB188_220.out BK188.out) hb); replace BK204 := Aside0.mk (blk_below (g := gb204) (o := .cells #[.slice Ao21 t196.length co21, .slice Ao24 t199.length co24] 26 (0, 0)) (xff NB204_220.out NB204_220.out BK204.out) hb); replace BK211 := Aside0.mk (blk_below (g := gb211) (o := .cells #[.slice Ao28 t205.length co28, .slice Ao32 t208.length co32] 26 (0, 0)) (xff NB211_220.out NB211_220.out BK211.out) hb); replace BK220 := Aside0.mk (blk_below (g := gb220) (o := .cells #[.slice Ao35 t212.length co35, .slice Ao40 t215.length co40] 26 (0, 0)) (by (with_reducible repeat (first | refine blk_drewN ?_ _ | refine blk_drew ?_ | refine blk_alloc ?_ _)); refine blk_put (cs := #[.slice Ao35 t212.length co35, .slice none 0 0]) ?_ 1 _ rfl; (with_reducible repeat (first | refine blk_drewN ?_ _ | refine blk_drew ?_ | refine blk_alloc ?_ _)); refine blk_put (cs := #[.slice none 0 0, .slice none 0 0]) ?_ 0 _ rfl; (with_reducible repeat (first | refine blk_drewN ?_ _ | refine blk_drew ?_ | refine blk_alloc ?_ _)); exact BK220.out) hb); replace HB := xp HB hb; (try clear hb); (try clear hb2); (try clear hk); (try clear hi)))
     go_meet
     case rel => exact ⟨_, (true), (by first | rfl | (simp; done) | (simp [*]; done)), H', ⟨by first | omega | exact Nat.le_refl _⟩, ⟨xm HO198 (fun _ hk => ⟨hk.1.1.1.1.1.1, ⟨hk.1.1.1.2, ⟨hk.1.1.2, ⟨hk.1.2, hk.2⟩⟩⟩⟩)⟩, ⟨xm HO201 (fun _ hk => ⟨hk.1.1.1.1.1.1, ⟨hk.1.1.1.2, ⟨hk.1.1.2, ⟨hk.1.2, hk.2⟩⟩⟩⟩)⟩, ⟨xm HO207 (fun _ hk => ⟨hk.1.1.1.2, ⟨hk.1.1.2, ⟨hk.1.1.1.1.1.1, ⟨hk.1.2, hk.2⟩⟩⟩⟩)⟩, ⟨xm HO210 (fun _ hk => ⟨hk.1.1.1.2, ⟨hk.1.1.2, ⟨hk.1.1.1.1.1.1, ⟨hk.1.2, hk.2⟩⟩⟩⟩)⟩, ⟨xm HO214 (fun _ hk => ⟨hk.1.1.1.2, ⟨hk.1.1.2, ⟨hk.1.2, ⟨hk.2, hk.1.1.1.1.1.1⟩⟩⟩⟩)⟩, ⟨xm HO217 (fun _ hk => ⟨hk.1.1.1.2, ⟨hk.1.1.2, ⟨hk.1.2, ⟨hk.2, hk.1.1.1.1.1.1⟩⟩⟩⟩)⟩, ⟨xb BK188.out⟩, ⟨xb BK204.out⟩, ⟨xb BK211.out⟩, ⟨xb BK220.out⟩, ⟨xs HB.out⟩⟩
   ·replace c42 := Bool.eq_false_iff.mpr c42
    subst c42
    have H1 : (laws_FnExactLeastScale.j0 k t202 t203 t218 t219 true l0_0 l0_1 t196 t199 t205 t208 t212 t215) = some true := by first | (rw [if_neg (show ¬ (false = true) by decide)] at H; exact H) | rfl
    clear H
    have H := H1
    clear H1
    have H' := Aside0.mk H
    clear H
    have hnb60 := NB220_188.out
    have hnc60 := NB188_220.out
    have hnb61 := NB220_204.out
    have hnc61 := NB204_220.out
    have hnb62 := NB220_211.out
    have hnc62 := NB211_220.out
    have hcz63_0 : w34.cell? ⟨gb220, 0, none⟩ = some (.slice none 0 0) := (blk_cell BK220.out 0).trans rfl
    have hcz63_1 : w34.cell? ⟨gb220, 1, none⟩ = some (.slice none 0 0) := (blk_cell BK220.out 1).trans rfl
    have hfz63_0 := blk_frozen BK220.out 0
    have hfz63_1 := blk_frozen BK220.out 1
    have hnb64 := NB204_188.out
    have hnc64 := NB188_204.out
    have hnb65 := NB204_211.out
    have hnc65 := NB211_204.out
    have hcz66_0 : w34.cell? ⟨gb204, 0, none⟩ = some (.slice Ao21 t196.length co21) := (blk_cell BK204.out 0).trans rfl
    have hcz66_1 : w34.cell? ⟨gb204, 1, none⟩ = some (.slice Ao24 t199.length co24) := (blk_cell BK204.out 1).trans rfl
    have hfz66_0 := blk_frozen BK204.out 0
    have hfz66_1 := blk_frozen BK204.out 1
    go_wp2_with (first | ((with_reducible refine gate_callee (f := 19) rfl ?_); refine goesL_ (some 39) rfl rfl Try.func19 (by kernel_rfl) rfl #[.agg #[.slice Ao35 t212.length co35, .slice Ao40 t215.length co40], .agg #[.slice Ao21 t196.length co21, .slice Ao24 t199.length co24]] rfl (by (try simp only [List.map_toArray, List.map_cons, List.map_nil]); first | done | rfl | (simp only [List.length_drop, List.length_take]; rfl)) ?_; (with_reducible refine (laws_eqVessels.calls k _ _ t212 _ _ t215 _ _ t196 _ _ t199 false _ ?side1 ?side2 ?side3 ?side4 ?side5 ?side6 ?side7 ?side8 A41.out).mono ?_); (case side1 => refine (Kd.R_reads' (e := 3) (base := w.heap.size) (ok := fun k_ => ((((((nS k_ Ao40 t215.length co40 ∧ nS k_ Ao17 t190.length co17) ∧ nS k_ Ao18 t193.length co18) ∧ nS k_ Ao21 t196.length co21) ∧ nS k_ Ao24 t199.length co24) ∧ nS k_ Ao28 t205.length co28) ∧ nS k_ Ao32 t208.length co32)) (n := t212.length) (c := co35) ?_).2.2; exact (by (with_reducible repeat (first | apply Kd.R_alloc | apply Kd.R_drewN | apply Kd.R_drew)); exact (Kd.R_mono (Kd.R_far (p := ⟨gb220, 1, none⟩) (Kd.R_far (p := ⟨gb220, 0, none⟩) (Kd.R_types HO214.out BK220.out (by decide)) (fun _ hk => hk.2) (.slice Ao35 t212.length co35)) (fun _ hk => hk.2) (.slice Ao40 t215.length co40)) (fun _ h_ => h_.1)))); (case side2 => exact (Kd.R_reads' HO214.out).2.1); (case side3 => refine (Kd.R_reads' (e := 3) (base := w.heap.size) (ok := fun k_ => ((((((nS k_ Ao35 t212.length co35 ∧ nS k_ Ao17 t190.length co17) ∧ nS k_ Ao18 t193.length co18) ∧ nS k_ Ao21 t196.length co21) ∧ nS k_ Ao24 t199.length co24) ∧ nS k_ Ao28 t205.length co28) ∧ nS k_ Ao32 t208.length co32)) (n := t215.length) (c := co40) ?_).2.2; exact (by (with_reducible repeat (first | apply Kd.R_alloc | apply Kd.R_drewN | apply Kd.R_drew)); exact (Kd.R_mono (Kd.R_far (p := ⟨gb220, 1, none⟩) (Kd.R_far (p := ⟨gb220, 0, none⟩) (Kd.R_types HO217.out BK220.out (by decide)) (fun _ hk => hk.2) (.slice Ao35 t212.length co35)) (fun _ hk => hk.2) (.slice Ao40 t215.length co40)) (fun _ h_ => h_.1)))); (case side4 => exact (Kd.R_reads' HO217.out).2.1); (case side5 => refine (Kd.R_reads' (e := 3) (base := w.heap.size) (ok := fun k_ => ((((((nS k_ Ao24 t199.length co24 ∧ nS k_ Ao17 t190.length co17) ∧ nS k_ Ao18 t193.length co18) ∧ nS k_ Ao28 t205.length co28) ∧ nS k_ Ao32 t208.length co32) ∧ nS k_ Ao35 t212.length co35) ∧ nS k_ Ao40 t215.length co40)) (n := t196.length) (c := co21) ?_).2.2; exact (by (with_reducible repeat (first | apply Kd.R_alloc | apply Kd.R_drewN | apply Kd.R_drew)); exact (Kd.R_mono (Kd.R_far (p := ⟨gb220, 1, none⟩) (Kd.R_far (p := ⟨gb220, 0, none⟩) (Kd.R_types HO198.out BK220.out (by decide)) (fun _ hk => hk.2) (.slice Ao35 t212.length co35)) (fun _ hk => hk.2) (.slice Ao40 t215.length co40)) (fun _ h_ => h_.1)))); (case side6 => exact (Kd.R_reads' HO198.out).2.1); (case side7 => refine (Kd.R_reads' (e := 3) (base := w.heap.size) (ok := fun k_ => ((((((nS k_ Ao21 t196.length co21 ∧ nS k_ Ao17 t190.length co17) ∧ nS k_ Ao18 t193.length co18) ∧ nS k_ Ao28 t205.length co28) ∧ nS k_ Ao32 t208.length co32) ∧ nS k_ Ao35 t212.length co35) ∧ nS k_ Ao40 t215.length co40)) (n := t199.length) (c := co24) ?_).2.2; exact (by (with_reducible repeat (first | apply Kd.R_alloc | apply Kd.R_drewN | apply Kd.R_drew)); exact (Kd.R_mono (Kd.R_far (p := ⟨gb220, 1, none⟩) (Kd.R_far (p := ⟨gb220, 0, none⟩) (Kd.R_types HO201.out BK220.out (by decide)) (fun _ hk => hk.2) (.slice Ao35 t212.length co35)) (fun _ hk => hk.2) (.slice Ao40 t215.length co40)) (fun _ h_ => h_.1)))); (case side8 => exact (Kd.R_reads' HO201.out).2.1); rintro e w67 ⟨rfl, hb⟩; refine ⟨_, rfl, ?_⟩; replace HO192 := Aside0.mk (Kd.R_below (by (with_reducible repeat (first | apply Kd.R_alloc | apply Kd.R_drewN | apply Kd.R_drew)); exact (Kd.R_mono (Kd.R_far (p := ⟨gb220, 1, none⟩) (Kd.R_far (p := ⟨gb220, 0, none⟩) (Kd.R_types HO192.out BK220.out (by decide)) (fun _ hk => hk.2) (.slice Ao35 t212.length co35)) (fun _ hk => hk.2) (.slice Ao40 t215.length co40)) (fun _ h_ => h_.1))) hb); replace HO195 := Aside0.mk (Kd.R_below (by (with_reducible repeat (first | apply Kd.R_alloc | apply Kd.R_drewN | apply Kd.R_drew)); exact (Kd.R_mono (Kd.R_far (p := ⟨gb220, 1, none⟩) (Kd.R_far (p := ⟨gb220, 0, none⟩) (Kd.R_types HO195.out BK220.out (by decide)) (fun _ hk => hk.2) (.slice Ao35 t212.length co35)) (fun _ hk => hk.2) (.slice Ao40 t215.length co40)) (fun _ h_ => h_.1))) hb); replace HO198 := Aside0.mk (Kd.R_below (by (with_reducible repeat (first | apply Kd.R_alloc | apply Kd.R_drewN | apply Kd.R_drew)); exact (Kd.R_mono (Kd.R_far (p := ⟨gb220, 1, none⟩) (Kd.R_far (p := ⟨gb220, 0, none⟩) (Kd.R_types HO198.out BK220.out (by decide)) (fun _ hk => hk.2) (.slice Ao35 t212.length co35)) (fun _ hk => hk.2) (.slice Ao40 t215.length co40)) (fun _ h_ => h_.1))) hb); replace HO201 := Aside0.mk (Kd.R_below (by (with_reducible repeat (first | apply Kd.R_alloc | apply Kd.R_drewN | apply Kd.R_drew)); exact (Kd.R_mono (Kd.R_far (p := ⟨gb220, 1, none⟩) (Kd.R_far (p := ⟨gb220, 0, none⟩) (Kd.R_types HO201.out BK220.out (by decide)) (fun _ hk => hk.2) (.slice Ao35 t212.length co35)) (fun _ hk => hk.2) (.slice Ao40 t215.length co40)) (fun _ h_ => h_.1))) hb); replace HO207 := Aside0.mk (Kd.R_below (by (with_reducible repeat (first | apply Kd.R_alloc | apply Kd.R_drewN | apply Kd.R_drew)); exact (Kd.R_mono (Kd.R_far (p := ⟨gb220, 1, none⟩) (Kd.R_far (p := ⟨gb220, 0, none⟩) (Kd.R_types HO207.out BK220.out (by decide)) (fun _ hk => hk.2) (.slice Ao35 t212.length co35)) (fun _ hk => hk.2) (.slice Ao40 t215.length co40)) (fun _ h_ => h_.1))) hb); replace HO210 := Aside0.mk (Kd.R_below (by (with_reducible repeat (first | apply Kd.R_alloc | apply Kd.R_drewN | apply Kd.R_drew)); exact (Kd.R_mono (Kd.R_far (p := ⟨gb220, 1, none⟩) (Kd.R_far (p := ⟨gb220, 0, none⟩) (Kd.R_types HO210.out BK220.out (by decide)) (fun _ hk => hk.2) (.slice Ao35 t212.length co35)) (fun _ hk => hk.2) (.slice Ao40 t215.length co40)) (fun _ h_ => h_.1))) hb); replace HO214 := Aside0.mk (Kd.R_below (by (with_reducible repeat (first | apply Kd.R_alloc | apply Kd.R_drewN | apply Kd.R_drew)); exact (Kd.R_mono (Kd.R_far (p := ⟨gb220, 1, none⟩) (Kd.R_far (p := ⟨gb220, 0, none⟩) (Kd.R_types HO214.out BK220.out (by decide)) (fun _ hk => hk.2) (.slice Ao35 t212.length co35)) (fun _ hk => hk.2) (.slice Ao40 t215.length co40)) (fun _ h_ => h_.1))) hb); replace HO217 := Aside0.mk (Kd.R_below (by (with_reducible repeat (first | apply Kd.R_alloc | apply Kd.R_drewN | apply Kd.R_drew)); exact (Kd.R_mono (Kd.R_far (p := ⟨gb220, 1, none⟩) (Kd.R_far (p := ⟨gb220, 0, none⟩) (Kd.R_types HO217.out BK220.out (by decide)) (fun _ hk => hk.2) (.slice Ao35 t212.length co35)) (fun _ hk => hk.2) (.slice Ao40 t215.length co40)) (fun _ h_ => h_.1))) hb); replace BK188 := Aside0.mk (blk_below (g := gb188) (o := .cells #[.slice A0_0 l0_0.length c0_0, .slice A0_1 l0_1.length c0_1] 24 (0, 0)) (xff NB188_220.out NB188_220.out BK188.out) hb); replace BK204 := Aside0.mk (blk_below (g := gb204) (o := .cells #[.slice Ao21 t196.length co21, .slice Ao24 t199.length co24] 26 (0, 0)) (xff NB204_220.out NB204_220.out BK204.out) hb); replace BK211 := Aside0.mk (blk_below (g := gb211) (o := .cells #[.slice Ao28 t205.length co28, .slice Ao32 t208.length co32] 26 (0, 0)) (xff NB211_220.out NB211_220.out BK211.out) hb); replace BK220 := Aside0.mk (blk_below (g := gb220) (o := .cells #[.slice Ao35 t212.length co35, .slice Ao40 t215.length co40] 26 (0, 0)) (by (with_reducible repeat (first | refine blk_drewN ?_ _ | refine blk_drew ?_ | refine blk_alloc ?_ _)); refine blk_put (cs := #[.slice Ao35 t212.length co35, .slice none 0 0]) ?_ 1 _ rfl; (with_reducible repeat (first | refine blk_drewN ?_ _ | refine blk_drew ?_ | refine blk_alloc ?_ _)); refine blk_put (cs := #[.slice none 0 0, .slice none 0 0]) ?_ 0 _ rfl; (with_reducible repeat (first | refine blk_drewN ?_ _ | refine blk_drew ?_ | refine blk_alloc ?_ _)); exact BK220.out) hb); replace HB := xp HB hb; (try clear hb); (try clear hb2); (try clear hk); (try clear hi)))
    go_meet
    case rel => exact ⟨_, (true), (by first | rfl | (simp; done) | (simp [*]; done)), H', ⟨by first | omega | exact Nat.le_refl _⟩, ⟨xm HO198 (fun _ hk => ⟨hk.1.1.1.1.1.1, ⟨hk.1.1.1.2, ⟨hk.1.1.2, ⟨hk.1.2, hk.2⟩⟩⟩⟩)⟩, ⟨xm HO201 (fun _ hk => ⟨hk.1.1.1.1.1.1, ⟨hk.1.1.1.2, ⟨hk.1.1.2, ⟨hk.1.2, hk.2⟩⟩⟩⟩)⟩, ⟨xm HO207 (fun _ hk => ⟨hk.1.1.1.2, ⟨hk.1.1.2, ⟨hk.1.1.1.1.1.1, ⟨hk.1.2, hk.2⟩⟩⟩⟩)⟩, ⟨xm HO210 (fun _ hk => ⟨hk.1.1.1.2, ⟨hk.1.1.2, ⟨hk.1.1.1.1.1.1, ⟨hk.1.2, hk.2⟩⟩⟩⟩)⟩, ⟨xm HO214 (fun _ hk => ⟨hk.1.1.1.2, ⟨hk.1.1.2, ⟨hk.1.2, ⟨hk.2, hk.1.1.1.1.1.1⟩⟩⟩⟩)⟩, ⟨xm HO217 (fun _ hk => ⟨hk.1.1.1.2, ⟨hk.1.1.2, ⟨hk.1.2, ⟨hk.2, hk.1.1.1.1.1.1⟩⟩⟩⟩)⟩, ⟨xb BK188.out⟩, ⟨xb BK204.out⟩, ⟨xb BK211.out⟩, ⟨xb BK220.out⟩, ⟨xs HB.out⟩⟩
  case rest =>
   clear HC11
   try clear c1
   try clear c2
   try clear p2
   try clear c3
   try clear c3b0
   try clear c4
   try clear c5
   try clear c6
   try clear c15
   try clear c17
   try clear c19
   try clear c22
   try clear c24
   try clear c25
   try clear c29
   try clear c30
   try clear c36
   try clear c37
   try clear c38
   try clear c42
   try clear c43
   try clear c43b0
   try clear c43b1
   try clear c44
   try clear c45
   try clear c46
   try clear c48
   try clear c49
   try clear c52
   try clear c53
   try clear c54
   try clear c56
   try clear c57
   try clear c60
   try clear c61
   try clear c62
   try clear c64
   try clear c65
   try clear hcz13_0
   try clear hcz13_1
   try clear hcz15_0
   try clear hcz15_1
   try clear hcz23_0
   try clear hcz23_1
   try clear hcz25_0
   try clear hcz25_1
   try clear hcz31_0
   try clear hcz31_1
   try clear hcz39_0
   try clear hcz39_1
   try clear hcz47_0
   try clear hcz47_1
   try clear hcz50_0
   try clear hcz50_1
   try clear hcz55_0
   try clear hcz55_1
   try clear hcz58_0
   try clear hcz58_1
   try clear hcz5_0
   try clear hcz5_1
   try clear hcz63_0
   try clear hcz63_1
   try clear hcz66_0
   try clear hcz66_1
   try clear hfz13_0
   try clear hfz13_1
   try clear hfz15_0
   try clear hfz15_1
   try clear hfz23_0
   try clear hfz23_1
   try clear hfz25_0
   try clear hfz25_1
   try clear hfz31_0
   try clear hfz31_1
   try clear hfz39_0
   try clear hfz39_1
   try clear hfz47_0
   try clear hfz47_1
   try clear hfz50_0
   try clear hfz50_1
   try clear hfz55_0
   try clear hfz55_1
   try clear hfz58_0
   try clear hfz58_1
   try clear hfz5_0
   try clear hfz5_1
   try clear hfz63_0
   try clear hfz63_1
   try clear hfz66_0
   try clear hfz66_1
   obtain ⟨kq, x50_10, rfl, HA, HJ10, HO_205000, HO_205001, HO_212000, HO_212001, HO_221000, HO_221001, BK188, BK204, BK211, BK220, HB⟩ := hcut
   cases kq with
   | zero => exact absurd HA.out (by simp [laws_FnExactLeastScale.j0])
   | succ kj10 =>
    have H := HA.out
    clear HA
    simp only [laws_FnExactLeastScale.j0] at H
    by_cases c68 : x50_10 = true
    ·subst c68
     have H1 : (some false) = some true := by first | (rw [if_pos rfl] at H; exact H) | rfl
     clear H
     have H := H1
     clear H1
     exact absurd H (by simp)
    ·replace c68 := Bool.eq_false_iff.mpr c68
     subst c68
     have H1 : ((laws_toVessels.f kj10 l0_0 l0_1).bind fun bt222 => ((laws_eqVessels.f kj10 t205 t208 bt222.1 bt222.2).bind fun t228 => (if t228 = true then ((laws_markVessels.f kj10 t205 t208 1).bind fun bt229 => (if bt229.1 < 0 then (laws_FnExactLeastScale.j1 kj10 t202 t203 true l0_0 l0_1 t196 t199 t212 t215) else ((laws_eqVessels.f kj10 t212 t215 t196 t199).bind fun t232 => (if t232 = true then (if t218 = t202 then (laws_FnExactLeastScale.j1 kj10 t202 t203 (t219 != t203) l0_0 l0_1 t196 t199 t212 t215) else (laws_FnExactLeastScale.j1 kj10 t202 t203 true l0_0 l0_1 t196 t199 t212 t215)) else (laws_FnExactLeastScale.j1 kj10 t202 t203 true l0_0 l0_1 t196 t199 t212 t215))))) else (some false)))) = some true := by first | (rw [if_neg (show ¬ (false = true) by decide)] at H; exact H) | rfl
     clear H
     have H := H1
     clear H1
     replace H := Option.bind_eq_some_iff.mp H
     obtain ⟨⟨t222, t225⟩, A690, H⟩ := H
     replace H : ((laws_eqVessels.f kj10 t205 t208 t222 t225).bind fun t228 => (if t228 = true then ((laws_markVessels.f kj10 t205 t208 1).bind fun bt229 => (if bt229.1 < 0 then (laws_FnExactLeastScale.j1 kj10 t202 t203 true l0_0 l0_1 t196 t199 t212 t215) else ((laws_eqVessels.f kj10 t212 t215 t196 t199).bind fun t232 => (if t232 = true then (if t218 = t202 then (laws_FnExactLeastScale.j1 kj10 t202 t203 (t219 != t203) l0_0 l0_1 t196 t199 t212 t215) else (laws_FnExactLeastScale.j1 kj10 t202 t203 true l0_0 l0_1 t196 t199 t212 t215)) else (laws_FnExactLeastScale.j1 kj10 t202 t203 true l0_0 l0_1 t196 t199 t212 t215))))) else (some false))) = some true := H
     have A69 := Aside0.mk A690
     clear A690
     replace H := Option.bind_eq_some_iff.mp H
     obtain ⟨t228, A700, H⟩ := H
     replace H : (if t228 = true then ((laws_markVessels.f kj10 t205 t208 1).bind fun bt229 => (if bt229.1 < 0 then (laws_FnExactLeastScale.j1 kj10 t202 t203 true l0_0 l0_1 t196 t199 t212 t215) else ((laws_eqVessels.f kj10 t212 t215 t196 t199).bind fun t232 => (if t232 = true then (if t218 = t202 then (laws_FnExactLeastScale.j1 kj10 t202 t203 (t219 != t203) l0_0 l0_1 t196 t199 t212 t215) else (laws_FnExactLeastScale.j1 kj10 t202 t203 true l0_0 l0_1 t196 t199 t212 t215)) else (laws_FnExactLeastScale.j1 kj10 t202 t203 true l0_0 l0_1 t196 t199 t212 t215))))) else (some false)) = some true := H
     have A70 := Aside0.mk A700
     clear A700
     by_cases c71 : t228 = true
     ·subst c71
      have H1 : ((laws_markVessels.f kj10 t205 t208 1).bind fun bt229 => (if bt229.1 < 0 then (laws_FnExactLeastScale.j1 kj10 t202 t203 true l0_0 l0_1 t196 t199 t212 t215) else ((laws_eqVessels.f kj10 t212 t215 t196 t199).bind fun t232 => (if t232 = true then (if t218 = t202 then (laws_FnExactLeastScale.j1 kj10 t202 t203 (t219 != t203) l0_0 l0_1 t196 t199 t212 t215) else (laws_FnExactLeastScale.j1 kj10 t202 t203 true l0_0 l0_1 t196 t199 t212 t215)) else (laws_FnExactLeastScale.j1 kj10 t202 t203 true l0_0 l0_1 t196 t199 t212 t215))))) = some true := by first | (rw [if_pos rfl] at H; exact H) | rfl
      clear H
      have H := H1
      clear H1
      replace H := Option.bind_eq_some_iff.mp H
      obtain ⟨⟨t229, t230, t231⟩, A720, H⟩ := H
      replace H : (if t229 < 0 then (laws_FnExactLeastScale.j1 kj10 t202 t203 true l0_0 l0_1 t196 t199 t212 t215) else ((laws_eqVessels.f kj10 t212 t215 t196 t199).bind fun t232 => (if t232 = true then (if t218 = t202 then (laws_FnExactLeastScale.j1 kj10 t202 t203 (t219 != t203) l0_0 l0_1 t196 t199 t212 t215) else (laws_FnExactLeastScale.j1 kj10 t202 t203 true l0_0 l0_1 t196 t199 t212 t215)) else (laws_FnExactLeastScale.j1 kj10 t202 t203 true l0_0 l0_1 t196 t199 t212 t215)))) = some true := H
      have A72 := Aside0.mk A720
      clear A720
      have HC73 := Aside0.mk H
      clear H
      try go_wp2
      replace HO_205000 := xw HO_205000
      replace HO_205001 := xw HO_205001
      replace HO_212000 := xw HO_212000
      replace HO_212001 := xw HO_212001
      replace HO_221000 := xw HO_221000
      replace HO_221001 := xw HO_221001
      replace BK188 := xv BK188
      replace BK204 := xv BK204
      replace BK211 := xv BK211
      replace BK220 := xv BK220
      replace HB := Aside0.mk (below_drew1 HB.out)
      refine start_ (n := 5) (S := fun w' => w'.cell? ⟨gb211, 0, none⟩ = some (.slice Ao28 t205.length co28) ∧ w'.cell? ⟨gb211, 1, none⟩ = some (.slice Ao32 t208.length co32) ∧ w'.cell? ⟨gb188, 0, none⟩ = some (.slice A0_0 l0_0.length c0_0) ∧ w'.cell? ⟨gb188, 1, none⟩ = some (.slice A0_1 l0_1.length c0_1)) (ds := []) #[false, false, false, false, false] (by kernel_rfl) rfl rfl ⟨(blk_cell BK211.out 0).trans rfl, (blk_cell BK211.out 1).trans rfl, (blk_cell BK188.out 0).trans rfl, (blk_cell BK188.out 1).trans rfl⟩ (fun hHeld => ?_)
      generalize wc.drew = w74 at HO_205000 HO_205001 HO_212000 HO_212001 HO_221000 HO_221001 BK188 BK204 BK211 BK220 HB hHeld ⊢
      refine take_ (i := 0) (N := some 51) (v := ?_) (a' := ?_) #[true, false, false, false, false] rfl rfl (by kernel_rfl) (fun _ _ _ h => h) (Or.inl ⟨by rfl, ?_⟩) hHeld ?_ ?_
      rotate_left
      ·rintro w' ⟨s0, s1, s2, s3⟩
       go_simp
       with_reducible rfl
      rotate_left
      ·simp only [Act.put, List.setIfInBounds_toArray, List.set_cons_zero, List.set_cons_succ, i64_w, i32_w]
       rfl
      refine take_ (i := 1) (N := some 52) (v := ?_) (a' := ?_) #[true, true, false, false, false] rfl rfl (by kernel_rfl) (fun _ _ _ h => h) (Or.inl ⟨by rfl, ?_⟩) hHeld ?_ ?_
      rotate_left
      ·rintro w' ⟨s0, s1, s2, s3⟩
       go_simp
       with_reducible rfl
      rotate_left
      ·simp only [Act.put, List.setIfInBounds_toArray, List.set_cons_zero, List.set_cons_succ, i64_w, i32_w]
       rfl
      refine one_ (i := 2) (N := some 53) #[true, true, true, false, false] rfl rfl (by kernel_rfl) (by decide) (fun K hK => ?_)
      refine goes_ Try.func17 (by kernel_rfl) rfl #[.agg #[.slice A0_0 l0_0.length c0_0, .slice A0_1 l0_1.length c0_1]] (by rfl) rfl rfl (by (try simp only [List.map_toArray, List.map_cons, List.map_nil]); first | done | rfl | (simp only [List.length_drop, List.length_take]; rfl)) ?_
      with_reducible refine (laws_toVessels.calls kj10 _ _ l0_0 _ _ l0_1 t222 t225 _ ?side1 ?side2 ?side3 ?side4 A69.out).mono ?_
      (case side1 => exact xd ((Kd.C_below HR0_0.out HB.out)))
      (case side2 => exact HC0_0.out)
      (case side3 => exact xd ((Kd.C_below HR0_1.out HB.out)))
      (case side4 => exact HC0_1.out)
      rintro e w75 ⟨v223, v226, rfl, ho0, ho1, hb⟩
      refine ⟨_, rfl, ?_⟩
      have HO224 := Aside0.mk (Kd.R_lower (Kd.R_new' (Kd.R_new' (Kd.R_new' (Kd.R_new' (Kd.R_new' (Kd.R_new' ho0 (Kd.R_lt (xr HO_205000.out))) (Kd.R_lt (xr HO_205001.out))) (Kd.R_lt (xr HO_212000.out))) (Kd.R_lt (xr HO_212001.out))) (Kd.R_lt (xr HO_221000.out))) (Kd.R_lt (xr HO_221001.out))) (below_size (xs HB.out)))
      have HO227 := Aside0.mk (Kd.R_lower (Kd.R_new' (Kd.R_new' (Kd.R_new' (Kd.R_new' (Kd.R_new' (Kd.R_new' ho1 (Kd.R_lt (xr HO_205000.out))) (Kd.R_lt (xr HO_205001.out))) (Kd.R_lt (xr HO_212000.out))) (Kd.R_lt (xr HO_212001.out))) (Kd.R_lt (xr HO_221000.out))) (Kd.R_lt (xr HO_221001.out))) (below_size (xs HB.out)))
      replace HO_205000 := xt HO_205000 hb ho0 ho1
      replace HO_205001 := xt HO_205001 hb ho0 ho1
      replace HO_212000 := xt HO_212000 hb ho0 ho1
      replace HO_212001 := xt HO_212001 hb ho0 ho1
      replace HO_221000 := xt HO_221000 hb ho0 ho1
      replace HO_221001 := xt HO_221001 hb ho0 ho1
      replace BK188 := xk BK188 hb
      replace BK204 := xk BK204 hb
      replace BK211 := xk BK211 hb
      replace BK220 := xk BK220 hb
      replace HB := xp HB hb
      (try clear hb)
      (try clear hb2)
      (try clear hk)
      (try clear hi)
      (try clear ho0)
      (try clear ho1)
      obtain ⟨Ao76, co76, eo76⟩ := Kd.R_slice HO224.out
      (first | subst eo76 | (injection eo76 with f1_ f2_ f3_; have f4_ := f1_.symm; have f5_ := f3_.symm; clear f1_ f2_ f3_; subst f4_; subst f5_))
      obtain ⟨Ao77, co77, eo77⟩ := Kd.R_slice HO227.out
      (first | subst eo77 | (injection eo77 with f1_ f2_ f3_; have f4_ := f1_.symm; have f5_ := f3_.symm; clear f1_ f2_ f3_; subst f4_; subst f5_))
      refine hK.out _ _ ⟨(blk_cell BK211.out 0).trans rfl, (blk_cell BK211.out 1).trans rfl, (blk_cell BK188.out 0).trans rfl, (blk_cell BK188.out 1).trans rfl⟩ (fun hHeld => ?_)
      clear hK K
      refine norm_ (a' := ?_) ?_ ?_
      rotate_left
      ·show Act.put _ (some 53) _ = _
       simp only [Act.put, List.setIfInBounds_toArray, List.set_cons_zero, List.set_cons_succ, i64_w, i32_w]
       rfl
      refine one_ (i := 3) (N := some 54) #[true, true, true, true, false] rfl rfl (by kernel_rfl) (by decide) (fun K hK => ?_)
      refine goes_ Try.func19 (by kernel_rfl) rfl #[.agg #[.slice Ao28 t205.length co28, .slice Ao32 t208.length co32], .agg #[.slice Ao76 t222.length co76, .slice Ao77 t225.length co77]] (by rfl) rfl rfl (by (try simp only [List.map_toArray, List.map_cons, List.map_nil]); first | done | rfl | (simp only [List.length_drop, List.length_take]; rfl)) ?_
      with_reducible refine (laws_eqVessels.calls kj10 _ _ t205 _ _ t208 _ _ t222 _ _ t225 true _ ?side1 ?side2 ?side3 ?side4 ?side5 ?side6 ?side7 ?side8 A70.out).mono ?_
      (case side1 => exact xd ((Kd.R_reads' HO_212000.out).2.2))
      (case side2 => exact (Kd.R_reads' HO_212000.out).2.1)
      (case side3 => exact xd ((Kd.R_reads' HO_212001.out).2.2))
      (case side4 => exact (Kd.R_reads' HO_212001.out).2.1)
      (case side5 => exact xd ((Kd.R_reads' HO224.out).2.2))
      (case side6 => exact (Kd.R_reads' HO224.out).2.1)
      (case side7 => exact xd ((Kd.R_reads' HO227.out).2.2))
      (case side8 => exact (Kd.R_reads' HO227.out).2.1)
      rintro e w78 ⟨rfl, hb⟩
      refine ⟨_, rfl, ?_⟩
      replace HO_205000 := xq HO_205000 hb
      replace HO_205001 := xq HO_205001 hb
      replace HO_212000 := xq HO_212000 hb
      replace HO_212001 := xq HO_212001 hb
      replace HO_221000 := xq HO_221000 hb
      replace HO_221001 := xq HO_221001 hb
      replace HO224 := xq HO224 hb
      replace HO227 := xq HO227 hb
      replace BK188 := xk BK188 hb
      replace BK204 := xk BK204 hb
      replace BK211 := xk BK211 hb
      replace BK220 := xk BK220 hb
      replace HB := xp HB hb
      (try clear hb)
      (try clear hb2)
      (try clear hk)
      (try clear hi)
      refine hK.out _ _ ⟨(blk_cell BK211.out 0).trans rfl, (blk_cell BK211.out 1).trans rfl, (blk_cell BK188.out 0).trans rfl, (blk_cell BK188.out 1).trans rfl⟩ (fun hHeld => ?_)
      clear hK K
      refine norm_ (a' := ?_) ?_ ?_
      rotate_left
      ·show Act.put _ (some 54) _ = _
       simp only [Act.put, List.setIfInBounds_toArray, List.set_cons_zero, List.set_cons_succ, i64_w, i32_w]
       rfl
      refine pure_ (i := 4) (N := some 55) (v := ?_) (a' := ?_) #[true, true, true, true, true] rfl rfl (by kernel_rfl) (fun _ _ _ h => h) (Or.inl ⟨by rfl, ?_⟩) ?_ ?_
      rotate_left
      ·intro w'
       go_simp
       with_reducible rfl
      rotate_left
      ·simp only [Act.put, List.setIfInBounds_toArray, List.set_cons_zero, List.set_cons_succ, i64_w, i32_w]
       rfl
      refine done_ (by kernel_rfl) ?_
      have hnb79 := NB211_188.out
      have hnc79 := NB188_211.out
      have hnb80 := NB211_204.out
      have hnc80 := NB204_211.out
      have hnb81 := NB211_220.out
      have hnc81 := NB220_211.out
      have hcz82_0 : w78.cell? ⟨gb211, 0, none⟩ = some (.slice Ao28 t205.length co28) := (blk_cell BK211.out 0).trans rfl
      have hcz82_1 : w78.cell? ⟨gb211, 1, none⟩ = some (.slice Ao32 t208.length co32) := (blk_cell BK211.out 1).trans rfl
      have hfz82_0 := blk_frozen BK211.out 0
      have hfz82_1 := blk_frozen BK211.out 1
      go_upto_region 14 with (first | ((with_reducible refine gate_callee (f := 20) rfl ?_); refine goesL_ (some 58) rfl rfl Try.func20 (by kernel_rfl) rfl #[.agg #[.slice Ao28 t205.length co28, .slice Ao32 t208.length co32], .int .i64 1] rfl (by (try simp only [List.map_toArray, List.map_cons, List.map_nil]); first | done | rfl | (simp only [List.length_drop, List.length_take]; rfl)) ?_; (with_reducible refine (laws_markVessels.calls kj10 (fun k_ => some k_ = (.slice Ao28 t205.length co28 : Value).ownBlock) (.slice Ao28 t205.length co28) t205 (fun k_ => some k_ = (.slice Ao32 t208.length co32 : Value).ownBlock) (.slice Ao32 t208.length co32) t208 1 t229 t230 t231 w _ ?side1 ?side2 ?side3 ?side4 ?side5 A72.out).mono ?_); (case side1 => repeat (first | (with_reducible first | exact HB.out | apply below_alloc | apply pw_below_drewN | apply below_drew1 | refine below_set ?_ GE188.out | refine below_set ?_ GE204.out | refine below_set ?_ GE211.out | refine below_set ?_ GE220.out) | exact HB.out)); (case side2 => exact Kd.R_tight rfl HO_212000.out); (case side3 => exact fun k_ e_ => (HO_212000.out.1 k_ e_.symm).1.1.2.2.1); (case side4 => exact Kd.R_tight rfl HO_212001.out); (case side5 => exact fun k_ e_ => (HO_212001.out.1 k_ e_.symm).1.1.2.2.1); rintro e w83 ⟨rfl, hy0, hy1, hb, hkp⟩; refine ⟨_, rfl, ?_⟩; replace HO_205000 := Aside0.mk (Kd.R_mono (ok' := fun k_ => nS k_ Ao24 t199.length co24 ∧ nS k_ Ao28 t205.length co28 ∧ nS k_ Ao32 t208.length co32 ∧ nS k_ Ao35 t212.length co35 ∧ nS k_ Ao40 t215.length co40 ∧ nS k_ Ao76 t222.length co76 ∧ nS k_ Ao77 t225.length co77) (Kd.R_keptB (HO_205000.out) hkp (fun k_ hk_ hs_ => Or.elim hs_ (fun e_ => (hk_.1.1.2.1) e_) (fun e_ => (hk_.1.1.2.2.1) e_))) (fun k_ hk_ => ⟨hk_.1.1.1.1, hk_.1.1.1.2.1, hk_.1.1.1.2.2.1, hk_.1.1.1.2.2.2.1, hk_.1.1.1.2.2.2.2, hk_.1.1.2, hk_.1.2⟩)); replace HO_205001 := Aside0.mk (Kd.R_mono (ok' := fun k_ => nS k_ Ao21 t196.length co21 ∧ nS k_ Ao28 t205.length co28 ∧ nS k_ Ao32 t208.length co32 ∧ nS k_ Ao35 t212.length co35 ∧ nS k_ Ao40 t215.length co40 ∧ nS k_ Ao76 t222.length co76 ∧ nS k_ Ao77 t225.length co77) (Kd.R_keptB (HO_205001.out) hkp (fun k_ hk_ hs_ => Or.elim hs_ (fun e_ => (hk_.1.1.2.1) e_) (fun e_ => (hk_.1.1.2.2.1) e_))) (fun k_ hk_ => ⟨hk_.1.1.1.1, hk_.1.1.1.2.1, hk_.1.1.1.2.2.1, hk_.1.1.1.2.2.2.1, hk_.1.1.1.2.2.2.2, hk_.1.1.2, hk_.1.2⟩)); replace HO_221000 := Aside0.mk (Kd.R_mono (ok' := fun k_ => nS k_ Ao21 t196.length co21 ∧ nS k_ Ao24 t199.length co24 ∧ nS k_ Ao28 t205.length co28 ∧ nS k_ Ao32 t208.length co32 ∧ nS k_ Ao40 t215.length co40 ∧ nS k_ Ao76 t222.length co76 ∧ nS k_ Ao77 t225.length co77) (Kd.R_keptB (HO_221000.out) hkp (fun k_ hk_ hs_ => Or.elim hs_ (fun e_ => (hk_.1.1.2.2.1) e_) (fun e_ => (hk_.1.1.2.2.2.1) e_))) (fun k_ hk_ => ⟨hk_.1.1.1.1, hk_.1.1.1.2.1, hk_.1.1.1.2.2.1, hk_.1.1.1.2.2.2.1, hk_.1.1.1.2.2.2.2, hk_.1.1.2, hk_.1.2⟩)); replace HO_221001 := Aside0.mk (Kd.R_mono (ok' := fun k_ => nS k_ Ao21 t196.length co21 ∧ nS k_ Ao24 t199.length co24 ∧ nS k_ Ao28 t205.length co28 ∧ nS k_ Ao32 t208.length co32 ∧ nS k_ Ao35 t212.length co35 ∧ nS k_ Ao76 t222.length co76 ∧ nS k_ Ao77 t225.length co77) (Kd.R_keptB (HO_221001.out) hkp (fun k_ hk_ hs_ => Or.elim hs_ (fun e_ => (hk_.1.1.2.2.1) e_) (fun e_ => (hk_.1.1.2.2.2.1) e_))) (fun k_ hk_ => ⟨hk_.1.1.1.1, hk_.1.1.1.2.1, hk_.1.1.1.2.2.1, hk_.1.1.1.2.2.2.1, hk_.1.1.1.2.2.2.2, hk_.1.1.2, hk_.1.2⟩)); replace BK188 := Aside0.mk (blk_kept (xb BK188.out) hkp (fun hs_ => Or.elim hs_ (fun e_ => (fun e_ => (Kd.R_ne HO_212000.out BK188.out (by decide)) e_) e_) (fun e_ => (fun e_ => (Kd.R_ne HO_212001.out BK188.out (by decide)) e_) e_))); replace BK204 := Aside0.mk (blk_kept (xb BK204.out) hkp (fun hs_ => Or.elim hs_ (fun e_ => (fun e_ => (Kd.R_ne HO_212000.out BK204.out (by decide)) e_) e_) (fun e_ => (fun e_ => (Kd.R_ne HO_212001.out BK204.out (by decide)) e_) e_))); replace BK211 := Aside0.mk (blk_kept (xb BK211.out) hkp (fun hs_ => Or.elim hs_ (fun e_ => (fun e_ => (Kd.R_ne HO_212000.out BK211.out (by decide)) e_) e_) (fun e_ => (fun e_ => (Kd.R_ne HO_212001.out BK211.out (by decide)) e_) e_))); replace BK220 := Aside0.mk (blk_kept (xb BK220.out) hkp (fun hs_ => Or.elim hs_ (fun e_ => (fun e_ => (Kd.R_ne HO_212000.out BK220.out (by decide)) e_) e_) (fun e_ => (fun e_ => (Kd.R_ne HO_212001.out BK220.out (by decide)) e_) e_))); replace HO_212000 := Aside0.mk (Kd.R_reok rfl hy0 (fun k_ e_ => HO_212000.out.1 k_ e_)); replace HO_212001 := Aside0.mk (Kd.R_reok rfl hy1 (fun k_ e_ => HO_212001.out.1 k_ e_)); replace HO224 := Aside0.mk (Kd.R_mono (ok' := fun k_ => nS k_ Ao21 t196.length co21 ∧ nS k_ Ao24 t199.length co24 ∧ nS k_ Ao28 t205.length co28 ∧ nS k_ Ao32 t208.length co32 ∧ nS k_ Ao35 t212.length co35 ∧ nS k_ Ao40 t215.length co40 ∧ nS k_ Ao77 t225.length co77) (Kd.R_keptB (HO224.out) hkp (fun k_ hk_ hs_ => Or.elim hs_ (fun e_ => (hk_.1.1.1.2) e_) (fun e_ => (hk_.1.1.2) e_))) (fun k_ hk_ => ⟨hk_.1.1.1.1.1.1.2, hk_.1.1.1.1.1.2, hk_.1.1.1.1.2, hk_.1.1.1.2, hk_.1.1.2, hk_.1.2, hk_.1.1.1.1.1.1.1⟩)); replace HO227 := Aside0.mk (Kd.R_mono (ok' := fun k_ => nS k_ Ao21 t196.length co21 ∧ nS k_ Ao24 t199.length co24 ∧ nS k_ Ao28 t205.length co28 ∧ nS k_ Ao32 t208.length co32 ∧ nS k_ Ao35 t212.length co35 ∧ nS k_ Ao40 t215.length co40 ∧ nS k_ Ao76 t222.length co76) (Kd.R_keptB (HO227.out) hkp (fun k_ hk_ hs_ => Or.elim hs_ (fun e_ => (hk_.1.1.1.2) e_) (fun e_ => (hk_.1.1.2) e_))) (fun k_ hk_ => ⟨hk_.1.1.1.1.1.1.2, hk_.1.1.1.1.1.2, hk_.1.1.1.1.2, hk_.1.1.1.2, hk_.1.1.2, hk_.1.2, hk_.1.1.1.1.1.1.1⟩)); replace HB := Aside0.mk (hb); (try clear hb); (try clear hkp); (try clear hy0); (try clear hy1)))
      (try simp only [Act.put, List.setIfInBounds_toArray, List.set_cons_zero, List.set_cons_succ])
      go_cut [76] (fun v76 wc => ∃ (kq : Nat) (x76_72 : Bool), v76 = .bool x76_72 ∧ Aside0 (laws_FnExactLeastScale.j1 kq t202 t203 x76_72 l0_0 l0_1 t196 t199 t212 t215 = some true) ∧ Aside0 (kq ≤ kj10) ∧ Aside0 (Kd.R (Kd.int .i64) 3 wc w.heap.size (fun k_ => nS k_ Ao24 t199.length co24 ∧ nS k_ Ao28 t205.length co28 ∧ nS k_ Ao32 t208.length co32 ∧ nS k_ Ao35 t212.length co35 ∧ nS k_ Ao40 t215.length co40) (.slice Ao21 t196.length co21) t196) ∧ Aside0 (Kd.R (Kd.int .i64) 3 wc w.heap.size (fun k_ => nS k_ Ao21 t196.length co21 ∧ nS k_ Ao28 t205.length co28 ∧ nS k_ Ao32 t208.length co32 ∧ nS k_ Ao35 t212.length co35 ∧ nS k_ Ao40 t215.length co40) (.slice Ao24 t199.length co24) t199) ∧ Aside0 (Kd.R (Kd.int .i64) 3 wc w.heap.size (fun k_ => nS k_ Ao21 t196.length co21 ∧ nS k_ Ao24 t199.length co24 ∧ nS k_ Ao32 t208.length co32 ∧ nS k_ Ao35 t212.length co35 ∧ nS k_ Ao40 t215.length co40) (.slice Ao28 t205.length co28) t230) ∧ Aside0 (Kd.R (Kd.int .i64) 3 wc w.heap.size (fun k_ => nS k_ Ao21 t196.length co21 ∧ nS k_ Ao24 t199.length co24 ∧ nS k_ Ao28 t205.length co28 ∧ nS k_ Ao35 t212.length co35 ∧ nS k_ Ao40 t215.length co40) (.slice Ao32 t208.length co32) t231) ∧ Aside0 (Kd.R (Kd.int .i64) 3 wc w.heap.size (fun k_ => nS k_ Ao21 t196.length co21 ∧ nS k_ Ao24 t199.length co24 ∧ nS k_ Ao28 t205.length co28 ∧ nS k_ Ao32 t208.length co32 ∧ nS k_ Ao40 t215.length co40) (.slice Ao35 t212.length co35) t212) ∧ Aside0 (Kd.R (Kd.int .i64) 3 wc w.heap.size (fun k_ => nS k_ Ao21 t196.length co21 ∧ nS k_ Ao24 t199.length co24 ∧ nS k_ Ao28 t205.length co28 ∧ nS k_ Ao32 t208.length co32 ∧ nS k_ Ao35 t212.length co35) (.slice Ao40 t215.length co40) t215) ∧ Aside0 (wc.heap[gb188]? = some (.cells #[(.slice A0_0 l0_0.length c0_0), (.slice A0_1 l0_1.length c0_1)] 24 (0, 0))) ∧ Aside0 (wc.heap[gb204]? = some (.cells #[(.slice Ao21 t196.length co21), (.slice Ao24 t199.length co24)] 26 (0, 0))) ∧ Aside0 (wc.heap[gb211]? = some (.cells #[(.slice Ao28 t205.length co28), (.slice Ao32 t208.length co32)] 26 (0, 0))) ∧ Aside0 (wc.heap[gb220]? = some (.cells #[(.slice Ao35 t212.length co35), (.slice Ao40 t215.length co40)] 26 (0, 0))) ∧ Aside0 (Below w.heap.size w wc))
      case first =>
       have H := HC73.out
       clear HC73
       by_cases c84 : t229 < 0
       ·rw [if_pos c84] at H
        have c84b0 : decide (t229 < 0) = true := decide_eq_true c84
        clear c84
        (first | rw [c84b0] | (simp only [i64_w, i32_w]; rw [c84b0]) | skip)
        have H' := Aside0.mk H
        clear H
        go_wp2
        go_meet
        case rel => exact ⟨_, (true), (by first | rfl | (simp; done) | (simp [*]; done)), H', ⟨by have := HJ10.out; first | omega | exact Nat.le_refl _⟩, ⟨xm HO_205000 (fun _ hk => ⟨hk.1, ⟨hk.2.1, ⟨hk.2.2.1, ⟨hk.2.2.2.1, hk.2.2.2.2.1⟩⟩⟩⟩)⟩, ⟨xm HO_205001 (fun _ hk => ⟨hk.1, ⟨hk.2.1, ⟨hk.2.2.1, ⟨hk.2.2.2.1, hk.2.2.2.2.1⟩⟩⟩⟩)⟩, ⟨xm HO_212000 (fun _ hk => ⟨hk.1.1.1, ⟨hk.1.1.2.1, ⟨hk.1.1.2.2.1, ⟨hk.1.1.2.2.2.1, hk.1.1.2.2.2.2⟩⟩⟩⟩)⟩, ⟨xm HO_212001 (fun _ hk => ⟨hk.1.1.1, ⟨hk.1.1.2.1, ⟨hk.1.1.2.2.1, ⟨hk.1.1.2.2.2.1, hk.1.1.2.2.2.2⟩⟩⟩⟩)⟩, ⟨xm HO_221000 (fun _ hk => ⟨hk.1, ⟨hk.2.1, ⟨hk.2.2.1, ⟨hk.2.2.2.1, hk.2.2.2.2.1⟩⟩⟩⟩)⟩, ⟨xm HO_221001 (fun _ hk => ⟨hk.1, ⟨hk.2.1, ⟨hk.2.2.1, ⟨hk.2.2.2.1, hk.2.2.2.2.1⟩⟩⟩⟩)⟩, ⟨xb BK188.out⟩, ⟨xb BK204.out⟩, ⟨xb BK211.out⟩, ⟨xb BK220.out⟩, ⟨xs HB.out⟩⟩
       ·rw [if_neg c84] at H
        have c84b0 : decide (t229 < 0) = false := decide_eq_false c84
        clear c84
        (first | rw [c84b0] | (simp only [i64_w, i32_w]; rw [c84b0]) | skip)
        replace H := Option.bind_eq_some_iff.mp H
        obtain ⟨t232, A850, H⟩ := H
        replace H : (if t232 = true then (if t218 = t202 then (laws_FnExactLeastScale.j1 kj10 t202 t203 (t219 != t203) l0_0 l0_1 t196 t199 t212 t215) else (laws_FnExactLeastScale.j1 kj10 t202 t203 true l0_0 l0_1 t196 t199 t212 t215)) else (laws_FnExactLeastScale.j1 kj10 t202 t203 true l0_0 l0_1 t196 t199 t212 t215)) = some true := H
        have A85 := Aside0.mk A850
        clear A850
        by_cases c86 : t232 = true
        ·subst c86
         have H1 : (if t218 = t202 then (laws_FnExactLeastScale.j1 kj10 t202 t203 (t219 != t203) l0_0 l0_1 t196 t199 t212 t215) else (laws_FnExactLeastScale.j1 kj10 t202 t203 true l0_0 l0_1 t196 t199 t212 t215)) = some true := by first | (rw [if_pos rfl] at H; exact H) | rfl
         clear H
         have H := H1
         clear H1
         by_cases c87 : t218 = t202
         ·rw [if_pos c87] at H
          have c87b0 : (t218 == t202) = true := beq_iff_eq.mpr c87
          have c87b1 : (t218 != t202) = false := bne_eq_false_iff_eq.mpr c87
          clear c87
          have H' := Aside0.mk H
          clear H
          have hnb88 := NB220_188.out
          have hnc88 := NB188_220.out
          have hnb89 := NB220_204.out
          have hnc89 := NB204_220.out
          have hnb90 := NB220_211.out
          have hnc90 := NB211_220.out
          have hcz91_0 : w83.cell? ⟨gb220, 0, none⟩ = some (.slice Ao35 t212.length co35) := (blk_cell BK220.out 0).trans rfl
          have hcz91_1 : w83.cell? ⟨gb220, 1, none⟩ = some (.slice Ao40 t215.length co40) := (blk_cell BK220.out 1).trans rfl
          have hfz91_0 := blk_frozen BK220.out 0
          have hfz91_1 := blk_frozen BK220.out 1
          have hnb92 := NB204_188.out
          have hnc92 := NB188_204.out
          have hnb93 := NB204_211.out
          have hnc93 := NB211_204.out
          have hcz94_0 : w83.cell? ⟨gb204, 0, none⟩ = some (.slice Ao21 t196.length co21) := (blk_cell BK204.out 0).trans rfl
          have hcz94_1 : w83.cell? ⟨gb204, 1, none⟩ = some (.slice Ao24 t199.length co24) := (blk_cell BK204.out 1).trans rfl
          have hfz94_0 := blk_frozen BK204.out 0
          have hfz94_1 := blk_frozen BK204.out 1
          go_wp2_with (first | (go_at_call 19; (with_reducible refine (laws_eqVessels.calls kj10 _ _ t212 _ _ t215 _ _ t196 _ _ t199 true _ ?side1 ?side2 ?side3 ?side4 ?side5 ?side6 ?side7 ?side8 A85.out).mono ?_); (case side1 => exact xd ((Kd.R_reads' HO_221000.out).2.2)); (case side2 => exact (Kd.R_reads' HO_221000.out).2.1); (case side3 => exact xd ((Kd.R_reads' HO_221001.out).2.2)); (case side4 => exact (Kd.R_reads' HO_221001.out).2.1); (case side5 => exact xd ((Kd.R_reads' HO_205000.out).2.2)); (case side6 => exact (Kd.R_reads' HO_205000.out).2.1); (case side7 => exact xd ((Kd.R_reads' HO_205001.out).2.2)); (case side8 => exact (Kd.R_reads' HO_205001.out).2.1); rintro e w95 ⟨rfl, hb⟩; replace HO_205000 := xq HO_205000 hb; replace HO_205001 := xq HO_205001 hb; replace HO_212000 := xq HO_212000 hb; replace HO_212001 := xq HO_212001 hb; replace HO_221000 := xq HO_221000 hb; replace HO_221001 := xq HO_221001 hb; replace HO224 := xq HO224 hb; replace HO227 := xq HO227 hb; replace BK188 := xk BK188 hb; replace BK204 := xk BK204 hb; replace BK211 := xk BK211 hb; replace BK220 := xk BK220 hb; replace HB := xp HB hb; (try clear hb); (try clear hb2); (try clear hk); (try clear hi)))
          go_meet
          case rel => exact ⟨_, ((t219 != t203)), (by first | rfl | (simp; done) | (simp [*]; done)), H', ⟨by have := HJ10.out; first | omega | exact Nat.le_refl _⟩, ⟨xm HO_205000 (fun _ hk => ⟨hk.1, ⟨hk.2.1, ⟨hk.2.2.1, ⟨hk.2.2.2.1, hk.2.2.2.2.1⟩⟩⟩⟩)⟩, ⟨xm HO_205001 (fun _ hk => ⟨hk.1, ⟨hk.2.1, ⟨hk.2.2.1, ⟨hk.2.2.2.1, hk.2.2.2.2.1⟩⟩⟩⟩)⟩, ⟨xm HO_212000 (fun _ hk => ⟨hk.1.1.1, ⟨hk.1.1.2.1, ⟨hk.1.1.2.2.1, ⟨hk.1.1.2.2.2.1, hk.1.1.2.2.2.2⟩⟩⟩⟩)⟩, ⟨xm HO_212001 (fun _ hk => ⟨hk.1.1.1, ⟨hk.1.1.2.1, ⟨hk.1.1.2.2.1, ⟨hk.1.1.2.2.2.1, hk.1.1.2.2.2.2⟩⟩⟩⟩)⟩, ⟨xm HO_221000 (fun _ hk => ⟨hk.1, ⟨hk.2.1, ⟨hk.2.2.1, ⟨hk.2.2.2.1, hk.2.2.2.2.1⟩⟩⟩⟩)⟩, ⟨xm HO_221001 (fun _ hk => ⟨hk.1, ⟨hk.2.1, ⟨hk.2.2.1, ⟨hk.2.2.2.1, hk.2.2.2.2.1⟩⟩⟩⟩)⟩, ⟨xb BK188.out⟩, ⟨xb BK204.out⟩, ⟨xb BK211.out⟩, ⟨xb BK220.out⟩, ⟨xs HB.out⟩⟩
         ·rw [if_neg c87] at H
          have c87b0 : (t218 == t202) = false := beq_eq_false_iff_ne.mpr c87
          have c87b1 : (t218 != t202) = true := bne_iff_ne.mpr c87
          have H' := Aside0.mk H
          clear H
          have hnb96 := NB220_188.out
          have hnc96 := NB188_220.out
          have hnb97 := NB220_204.out
          have hnc97 := NB204_220.out
          have hnb98 := NB220_211.out
          have hnc98 := NB211_220.out
          have hcz99_0 : w83.cell? ⟨gb220, 0, none⟩ = some (.slice Ao35 t212.length co35) := (blk_cell BK220.out 0).trans rfl
          have hcz99_1 : w83.cell? ⟨gb220, 1, none⟩ = some (.slice Ao40 t215.length co40) := (blk_cell BK220.out 1).trans rfl
          have hfz99_0 := blk_frozen BK220.out 0
          have hfz99_1 := blk_frozen BK220.out 1
          have hnb100 := NB204_188.out
          have hnc100 := NB188_204.out
          have hnb101 := NB204_211.out
          have hnc101 := NB211_204.out
          have hcz102_0 : w83.cell? ⟨gb204, 0, none⟩ = some (.slice Ao21 t196.length co21) := (blk_cell BK204.out 0).trans rfl
          have hcz102_1 : w83.cell? ⟨gb204, 1, none⟩ = some (.slice Ao24 t199.length co24) := (blk_cell BK204.out 1).trans rfl
          have hfz102_0 := blk_frozen BK204.out 0
          have hfz102_1 := blk_frozen BK204.out 1
          go_wp2_with (first | (go_at_call 19; (with_reducible refine (laws_eqVessels.calls kj10 _ _ t212 _ _ t215 _ _ t196 _ _ t199 true _ ?side1 ?side2 ?side3 ?side4 ?side5 ?side6 ?side7 ?side8 A85.out).mono ?_); (case side1 => exact xd ((Kd.R_reads' HO_221000.out).2.2)); (case side2 => exact (Kd.R_reads' HO_221000.out).2.1); (case side3 => exact xd ((Kd.R_reads' HO_221001.out).2.2)); (case side4 => exact (Kd.R_reads' HO_221001.out).2.1); (case side5 => exact xd ((Kd.R_reads' HO_205000.out).2.2)); (case side6 => exact (Kd.R_reads' HO_205000.out).2.1); (case side7 => exact xd ((Kd.R_reads' HO_205001.out).2.2)); (case side8 => exact (Kd.R_reads' HO_205001.out).2.1); rintro e w103 ⟨rfl, hb⟩; replace HO_205000 := xq HO_205000 hb; replace HO_205001 := xq HO_205001 hb; replace HO_212000 := xq HO_212000 hb; replace HO_212001 := xq HO_212001 hb; replace HO_221000 := xq HO_221000 hb; replace HO_221001 := xq HO_221001 hb; replace HO224 := xq HO224 hb; replace HO227 := xq HO227 hb; replace BK188 := xk BK188 hb; replace BK204 := xk BK204 hb; replace BK211 := xk BK211 hb; replace BK220 := xk BK220 hb; replace HB := xp HB hb; (try clear hb); (try clear hb2); (try clear hk); (try clear hi)))
          go_meet
          case rel => exact ⟨_, (true), (by first | rfl | (simp; done) | (simp [*]; done)), H', ⟨by have := HJ10.out; first | omega | exact Nat.le_refl _⟩, ⟨xm HO_205000 (fun _ hk => ⟨hk.1, ⟨hk.2.1, ⟨hk.2.2.1, ⟨hk.2.2.2.1, hk.2.2.2.2.1⟩⟩⟩⟩)⟩, ⟨xm HO_205001 (fun _ hk => ⟨hk.1, ⟨hk.2.1, ⟨hk.2.2.1, ⟨hk.2.2.2.1, hk.2.2.2.2.1⟩⟩⟩⟩)⟩, ⟨xm HO_212000 (fun _ hk => ⟨hk.1.1.1, ⟨hk.1.1.2.1, ⟨hk.1.1.2.2.1, ⟨hk.1.1.2.2.2.1, hk.1.1.2.2.2.2⟩⟩⟩⟩)⟩, ⟨xm HO_212001 (fun _ hk => ⟨hk.1.1.1, ⟨hk.1.1.2.1, ⟨hk.1.1.2.2.1, ⟨hk.1.1.2.2.2.1, hk.1.1.2.2.2.2⟩⟩⟩⟩)⟩, ⟨xm HO_221000 (fun _ hk => ⟨hk.1, ⟨hk.2.1, ⟨hk.2.2.1, ⟨hk.2.2.2.1, hk.2.2.2.2.1⟩⟩⟩⟩)⟩, ⟨xm HO_221001 (fun _ hk => ⟨hk.1, ⟨hk.2.1, ⟨hk.2.2.1, ⟨hk.2.2.2.1, hk.2.2.2.2.1⟩⟩⟩⟩)⟩, ⟨xb BK188.out⟩, ⟨xb BK204.out⟩, ⟨xb BK211.out⟩, ⟨xb BK220.out⟩, ⟨xs HB.out⟩⟩
        ·replace c86 := Bool.eq_false_iff.mpr c86
         subst c86
         have H1 : (laws_FnExactLeastScale.j1 kj10 t202 t203 true l0_0 l0_1 t196 t199 t212 t215) = some true := by first | (rw [if_neg (show ¬ (false = true) by decide)] at H; exact H) | rfl
         clear H
         have H := H1
         clear H1
         have H' := Aside0.mk H
         clear H
         have hnb104 := NB220_188.out
         have hnc104 := NB188_220.out
         have hnb105 := NB220_204.out
         have hnc105 := NB204_220.out
         have hnb106 := NB220_211.out
         have hnc106 := NB211_220.out
         have hcz107_0 : w83.cell? ⟨gb220, 0, none⟩ = some (.slice Ao35 t212.length co35) := (blk_cell BK220.out 0).trans rfl
         have hcz107_1 : w83.cell? ⟨gb220, 1, none⟩ = some (.slice Ao40 t215.length co40) := (blk_cell BK220.out 1).trans rfl
         have hfz107_0 := blk_frozen BK220.out 0
         have hfz107_1 := blk_frozen BK220.out 1
         have hnb108 := NB204_188.out
         have hnc108 := NB188_204.out
         have hnb109 := NB204_211.out
         have hnc109 := NB211_204.out
         have hcz110_0 : w83.cell? ⟨gb204, 0, none⟩ = some (.slice Ao21 t196.length co21) := (blk_cell BK204.out 0).trans rfl
         have hcz110_1 : w83.cell? ⟨gb204, 1, none⟩ = some (.slice Ao24 t199.length co24) := (blk_cell BK204.out 1).trans rfl
         have hfz110_0 := blk_frozen BK204.out 0
         have hfz110_1 := blk_frozen BK204.out 1
         go_wp2_with (first | (go_at_call 19; (with_reducible refine (laws_eqVessels.calls kj10 _ _ t212 _ _ t215 _ _ t196 _ _ t199 false _ ?side1 ?side2 ?side3 ?side4 ?side5 ?side6 ?side7 ?side8 A85.out).mono ?_); (case side1 => exact xd ((Kd.R_reads' HO_221000.out).2.2)); (case side2 => exact (Kd.R_reads' HO_221000.out).2.1); (case side3 => exact xd ((Kd.R_reads' HO_221001.out).2.2)); (case side4 => exact (Kd.R_reads' HO_221001.out).2.1); (case side5 => exact xd ((Kd.R_reads' HO_205000.out).2.2)); (case side6 => exact (Kd.R_reads' HO_205000.out).2.1); (case side7 => exact xd ((Kd.R_reads' HO_205001.out).2.2)); (case side8 => exact (Kd.R_reads' HO_205001.out).2.1); rintro e w111 ⟨rfl, hb⟩; replace HO_205000 := xq HO_205000 hb; replace HO_205001 := xq HO_205001 hb; replace HO_212000 := xq HO_212000 hb; replace HO_212001 := xq HO_212001 hb; replace HO_221000 := xq HO_221000 hb; replace HO_221001 := xq HO_221001 hb; replace HO224 := xq HO224 hb; replace HO227 := xq HO227 hb; replace BK188 := xk BK188 hb; replace BK204 := xk BK204 hb; replace BK211 := xk BK211 hb; replace BK220 := xk BK220 hb; replace HB := xp HB hb; (try clear hb); (try clear hb2); (try clear hk); (try clear hi)))
         go_meet
         case rel => exact ⟨_, (true), (by first | rfl | (simp; done) | (simp [*]; done)), H', ⟨by have := HJ10.out; first | omega | exact Nat.le_refl _⟩, ⟨xm HO_205000 (fun _ hk => ⟨hk.1, ⟨hk.2.1, ⟨hk.2.2.1, ⟨hk.2.2.2.1, hk.2.2.2.2.1⟩⟩⟩⟩)⟩, ⟨xm HO_205001 (fun _ hk => ⟨hk.1, ⟨hk.2.1, ⟨hk.2.2.1, ⟨hk.2.2.2.1, hk.2.2.2.2.1⟩⟩⟩⟩)⟩, ⟨xm HO_212000 (fun _ hk => ⟨hk.1.1.1, ⟨hk.1.1.2.1, ⟨hk.1.1.2.2.1, ⟨hk.1.1.2.2.2.1, hk.1.1.2.2.2.2⟩⟩⟩⟩)⟩, ⟨xm HO_212001 (fun _ hk => ⟨hk.1.1.1, ⟨hk.1.1.2.1, ⟨hk.1.1.2.2.1, ⟨hk.1.1.2.2.2.1, hk.1.1.2.2.2.2⟩⟩⟩⟩)⟩, ⟨xm HO_221000 (fun _ hk => ⟨hk.1, ⟨hk.2.1, ⟨hk.2.2.1, ⟨hk.2.2.2.1, hk.2.2.2.2.1⟩⟩⟩⟩)⟩, ⟨xm HO_221001 (fun _ hk => ⟨hk.1, ⟨hk.2.1, ⟨hk.2.2.1, ⟨hk.2.2.2.1, hk.2.2.2.2.1⟩⟩⟩⟩)⟩, ⟨xb BK188.out⟩, ⟨xb BK204.out⟩, ⟨xb BK211.out⟩, ⟨xb BK220.out⟩, ⟨xs HB.out⟩⟩
      case rest =>
       clear HC73
       try clear c1
       try clear c2
       try clear p2
       try clear c3
       try clear c3b0
       try clear c4
       try clear c5
       try clear c6
       try clear c7
       try clear c8
       try clear c9
       try clear c10
       try clear c15
       try clear c17
       try clear c19
       try clear c20
       try clear c22
       try clear c24
       try clear c25
       try clear c29
       try clear c30
       try clear c36
       try clear c37
       try clear c38
       try clear c42
       try clear c43
       try clear c43b0
       try clear c43b1
       try clear c44
       try clear c45
       try clear c46
       try clear c48
       try clear c49
       try clear c52
       try clear c53
       try clear c54
       try clear c56
       try clear c57
       try clear c60
       try clear c61
       try clear c62
       try clear c64
       try clear c65
       try clear c68
       try clear c71
       try clear c79
       try clear c80
       try clear c81
       try clear c84
       try clear c84b0
       try clear c86
       try clear c87
       try clear c87b0
       try clear c87b1
       try clear c88
       try clear c89
       try clear c90
       try clear c92
       try clear c93
       try clear c96
       try clear c97
       try clear c98
       try clear c100
       try clear c101
       try clear c104
       try clear c105
       try clear c106
       try clear c108
       try clear c109
       try clear hcz102_0
       try clear hcz102_1
       try clear hcz107_0
       try clear hcz107_1
       try clear hcz110_0
       try clear hcz110_1
       try clear hcz13_0
       try clear hcz13_1
       try clear hcz15_0
       try clear hcz15_1
       try clear hcz23_0
       try clear hcz23_1
       try clear hcz25_0
       try clear hcz25_1
       try clear hcz31_0
       try clear hcz31_1
       try clear hcz39_0
       try clear hcz39_1
       try clear hcz47_0
       try clear hcz47_1
       try clear hcz50_0
       try clear hcz50_1
       try clear hcz55_0
       try clear hcz55_1
       try clear hcz58_0
       try clear hcz58_1
       try clear hcz5_0
       try clear hcz5_1
       try clear hcz63_0
       try clear hcz63_1
       try clear hcz66_0
       try clear hcz66_1
       try clear hcz82_0
       try clear hcz82_1
       try clear hcz91_0
       try clear hcz91_1
       try clear hcz94_0
       try clear hcz94_1
       try clear hcz99_0
       try clear hcz99_1
       try clear hfz102_0
       try clear hfz102_1
       try clear hfz107_0
       try clear hfz107_1
       try clear hfz110_0
       try clear hfz110_1
       try clear hfz13_0
       try clear hfz13_1
       try clear hfz15_0
       try clear hfz15_1
       try clear hfz23_0
       try clear hfz23_1
       try clear hfz25_0
       try clear hfz25_1
       try clear hfz31_0
       try clear hfz31_1
       try clear hfz39_0
       try clear hfz39_1
       try clear hfz47_0
       try clear hfz47_1
       try clear hfz50_0
       try clear hfz50_1
       try clear hfz55_0
       try clear hfz55_1
       try clear hfz58_0
       try clear hfz58_1
       try clear hfz5_0
       try clear hfz5_1
       try clear hfz63_0
       try clear hfz63_1
       try clear hfz66_0
       try clear hfz66_1
       try clear hfz82_0
       try clear hfz82_1
       try clear hfz91_0
       try clear hfz91_1
       try clear hfz94_0
       try clear hfz94_1
       try clear hfz99_0
       try clear hfz99_1
       try clear p2
       obtain ⟨kq, x76_72, rfl, HA, HJ72, HO_205000, HO_205001, HO_212000, HO_212001, HO_221000, HO_221001, BK188, BK204, BK211, BK220, HB⟩ := hcut
       have hl212000_72 := (Kd.R_reads' HO_212000.out).1
       rw [hl212000_72] at HO_212000
       (try simp only [hl212000_72])
       (try simp only [hl212000_72] at BK188)
       (try simp only [hl212000_72] at BK204)
       (try simp only [hl212000_72] at BK211)
       (try simp only [hl212000_72] at BK220)
       (try simp only [hl212000_72] at HO_205000)
       (try simp only [hl212000_72] at HO_205001)
       (try simp only [hl212000_72] at HO_212001)
       (try simp only [hl212000_72] at HO_221000)
       (try simp only [hl212000_72] at HO_221001)
       have hl212001_72 := (Kd.R_reads' HO_212001.out).1
       rw [hl212001_72] at HO_212001
       (try simp only [hl212001_72])
       (try simp only [hl212001_72] at BK188)
       (try simp only [hl212001_72] at BK204)
       (try simp only [hl212001_72] at BK211)
       (try simp only [hl212001_72] at BK220)
       (try simp only [hl212001_72] at HO_205000)
       (try simp only [hl212001_72] at HO_205001)
       (try simp only [hl212001_72] at HO_212000)
       (try simp only [hl212001_72] at HO_221000)
       (try simp only [hl212001_72] at HO_221001)
       cases kq with
       | zero => exact absurd HA.out (by simp [laws_FnExactLeastScale.j1])
       | succ kj72 =>
        have H := HA.out
        clear HA
        simp only [laws_FnExactLeastScale.j1] at H
        by_cases c112 : x76_72 = true
        ·subst c112
         have H1 : (some false) = some true := by first | (rw [if_pos rfl] at H; exact H) | rfl
         clear H
         have H := H1
         clear H1
         exact absurd H (by simp)
        ·replace c112 := Bool.eq_false_iff.mpr c112
         subst c112
         have H1 : ((laws_markVessels.f kj72 t212 t215 1).bind fun bt233 => ((laws_heldVessels.f kj72 bt233.2.1 bt233.2.2 1).bind fun t236 => (if t236 < 0 then (some false) else (if t236 = bt233.1 then ((laws_toVessels.f kj72 l0_0 l0_1).bind fun bt237 => ((impl_LeastScale.f kj72 bt237.1 bt237.2).bind fun bt243 => ((laws_eqVessels.f kj72 bt243.1 bt243.2.1 t196 t199).bind fun t252 => (if t252 = true then (if bt243.2.2.1 = t202 then (laws_FnExactLeastScale.j2 kj72 bt233.1 (bt243.2.2.2 != t203) bt233.2.1 bt233.2.2) else (laws_FnExactLeastScale.j2 kj72 bt233.1 true bt233.2.1 bt233.2.2)) else (laws_FnExactLeastScale.j2 kj72 bt233.1 true bt233.2.1 bt233.2.2))))) else (some false))))) = some true := by first | (rw [if_neg (show ¬ (false = true) by decide)] at H; exact H) | rfl
         clear H
         have H := H1
         clear H1
         replace H := Option.bind_eq_some_iff.mp H
         obtain ⟨⟨t233, t234, t235⟩, A1130, H⟩ := H
         replace H : ((laws_heldVessels.f kj72 t234 t235 1).bind fun t236 => (if t236 < 0 then (some false) else (if t236 = t233 then ((laws_toVessels.f kj72 l0_0 l0_1).bind fun bt237 => ((impl_LeastScale.f kj72 bt237.1 bt237.2).bind fun bt243 => ((laws_eqVessels.f kj72 bt243.1 bt243.2.1 t196 t199).bind fun t252 => (if t252 = true then (if bt243.2.2.1 = t202 then (laws_FnExactLeastScale.j2 kj72 t233 (bt243.2.2.2 != t203) t234 t235) else (laws_FnExactLeastScale.j2 kj72 t233 true t234 t235)) else (laws_FnExactLeastScale.j2 kj72 t233 true t234 t235))))) else (some false)))) = some true := H
         have A113 := Aside0.mk A1130
         clear A1130
         replace H := Option.bind_eq_some_iff.mp H
         obtain ⟨t236, A1140, H⟩ := H
         replace H : (if t236 < 0 then (some false) else (if t236 = t233 then ((laws_toVessels.f kj72 l0_0 l0_1).bind fun bt237 => ((impl_LeastScale.f kj72 bt237.1 bt237.2).bind fun bt243 => ((laws_eqVessels.f kj72 bt243.1 bt243.2.1 t196 t199).bind fun t252 => (if t252 = true then (if bt243.2.2.1 = t202 then (laws_FnExactLeastScale.j2 kj72 t233 (bt243.2.2.2 != t203) t234 t235) else (laws_FnExactLeastScale.j2 kj72 t233 true t234 t235)) else (laws_FnExactLeastScale.j2 kj72 t233 true t234 t235))))) else (some false))) = some true := H
         have A114 := Aside0.mk A1140
         clear A1140
         by_cases c115 : t236 < 0
         ·rw [if_pos c115] at H
          have c115b0 : decide (t236 < 0) = true := decide_eq_true c115
          clear c115
          exact absurd H (by simp)
         ·rw [if_neg c115] at H
          have c115b0 : decide (t236 < 0) = false := decide_eq_false c115
          clear c115
          by_cases c116 : t236 = t233
          ·rw [if_pos c116] at H
           have c116b0 : (t236 == t233) = true := beq_iff_eq.mpr c116
           have c116b1 : (t236 != t233) = false := bne_eq_false_iff_eq.mpr c116
           clear c116
           replace H := Option.bind_eq_some_iff.mp H
           obtain ⟨⟨t237, t240⟩, A1170, H⟩ := H
           replace H : ((impl_LeastScale.f kj72 t237 t240).bind fun bt243 => ((laws_eqVessels.f kj72 bt243.1 bt243.2.1 t196 t199).bind fun t252 => (if t252 = true then (if bt243.2.2.1 = t202 then (laws_FnExactLeastScale.j2 kj72 t233 (bt243.2.2.2 != t203) t234 t235) else (laws_FnExactLeastScale.j2 kj72 t233 true t234 t235)) else (laws_FnExactLeastScale.j2 kj72 t233 true t234 t235)))) = some true := H
           have A117 := Aside0.mk A1170
           clear A1170
           replace H := Option.bind_eq_some_iff.mp H
           obtain ⟨⟨t243, t246, t249, t250⟩, A1180, H⟩ := H
           replace H : ((laws_eqVessels.f kj72 t243 t246 t196 t199).bind fun t252 => (if t252 = true then (if t249 = t202 then (laws_FnExactLeastScale.j2 kj72 t233 (t250 != t203) t234 t235) else (laws_FnExactLeastScale.j2 kj72 t233 true t234 t235)) else (laws_FnExactLeastScale.j2 kj72 t233 true t234 t235))) = some true := H
           have A118 := Aside0.mk A1180
           clear A1180
           have HC119 := Aside0.mk H
           clear H
           have hnb120 := NB220_188.out
           have hnc120 := NB188_220.out
           have hnb121 := NB220_204.out
           have hnc121 := NB204_220.out
           have hnb122 := NB220_211.out
           have hnc122 := NB211_220.out
           have hcz123_0 : wc.cell? ⟨gb220, 0, none⟩ = some (.slice Ao35 t212.length co35) := (blk_cell BK220.out 0).trans rfl
           have hcz123_1 : wc.cell? ⟨gb220, 1, none⟩ = some (.slice Ao40 t215.length co40) := (blk_cell BK220.out 1).trans rfl
           have hfz123_0 := blk_frozen BK220.out 0
           have hfz123_1 := blk_frozen BK220.out 1
           go_upto_region 25 with (first | ((with_reducible refine gate_callee (f := 20) rfl ?_); refine goesL_ (some 79) rfl rfl Try.func20 (by kernel_rfl) rfl #[.agg #[.slice Ao35 t212.length co35, .slice Ao40 t215.length co40], .int .i64 1] rfl (by (try simp only [List.map_toArray, List.map_cons, List.map_nil]); first | done | rfl | (simp only [List.length_drop, List.length_take]; rfl)) ?_; (with_reducible refine (laws_markVessels.calls kj72 (fun k_ => some k_ = (.slice Ao35 t212.length co35 : Value).ownBlock) (.slice Ao35 t212.length co35) t212 (fun k_ => some k_ = (.slice Ao40 t215.length co40 : Value).ownBlock) (.slice Ao40 t215.length co40) t215 1 t233 t234 t235 w _ ?side1 ?side2 ?side3 ?side4 ?side5 A113.out).mono ?_); (case side1 => repeat (first | (with_reducible first | exact HB.out | apply below_alloc | apply pw_below_drewN | apply below_drew1 | refine below_set ?_ GE188.out | refine below_set ?_ GE204.out | refine below_set ?_ GE211.out | refine below_set ?_ GE220.out) | exact HB.out)); (case side2 => exact Kd.R_tight rfl HO_221000.out); (case side3 => exact fun k_ e_ => (HO_221000.out.1 k_ e_.symm).2.2.2.2); (case side4 => exact Kd.R_tight rfl HO_221001.out); (case side5 => exact fun k_ e_ => (HO_221001.out.1 k_ e_.symm).2.2.2.2); rintro e w124 ⟨rfl, hy0, hy1, hb, hkp⟩; refine ⟨_, rfl, ?_⟩; replace HO_205000 := Aside0.mk (Kd.R_mono (ok' := fun k_ => nS k_ Ao24 t199.length co24 ∧ nS k_ Ao28 t230.length co28 ∧ nS k_ Ao32 t231.length co32 ∧ nS k_ Ao35 t212.length co35 ∧ nS k_ Ao40 t215.length co40) (Kd.R_keptB (HO_205000.out) hkp (fun k_ hk_ hs_ => Or.elim hs_ (fun e_ => (hk_.2.2.2.1) e_) (fun e_ => (hk_.2.2.2.2) e_))) (fun k_ hk_ => ⟨hk_.1.1, hk_.1.2.1, hk_.1.2.2.1, hk_.1.2.2.2.1, hk_.1.2.2.2.2⟩)); replace HO_205001 := Aside0.mk (Kd.R_mono (ok' := fun k_ => nS k_ Ao21 t196.length co21 ∧ nS k_ Ao28 t230.length co28 ∧ nS k_ Ao32 t231.length co32 ∧ nS k_ Ao35 t212.length co35 ∧ nS k_ Ao40 t215.length co40) (Kd.R_keptB (HO_205001.out) hkp (fun k_ hk_ hs_ => Or.elim hs_ (fun e_ => (hk_.2.2.2.1) e_) (fun e_ => (hk_.2.2.2.2) e_))) (fun k_ hk_ => ⟨hk_.1.1, hk_.1.2.1, hk_.1.2.2.1, hk_.1.2.2.2.1, hk_.1.2.2.2.2⟩)); replace HO_212000 := Aside0.mk (Kd.R_mono (ok' := fun k_ => nS k_ Ao21 t196.length co21 ∧ nS k_ Ao24 t199.length co24 ∧ nS k_ Ao32 t231.length co32 ∧ nS k_ Ao35 t212.length co35 ∧ nS k_ Ao40 t215.length co40) (Kd.R_keptB (HO_212000.out) hkp (fun k_ hk_ hs_ => Or.elim hs_ (fun e_ => (hk_.2.2.2.1) e_) (fun e_ => (hk_.2.2.2.2) e_))) (fun k_ hk_ => ⟨hk_.1.1, hk_.1.2.1, hk_.1.2.2.1, hk_.1.2.2.2.1, hk_.1.2.2.2.2⟩)); replace HO_212001 := Aside0.mk (Kd.R_mono (ok' := fun k_ => nS k_ Ao21 t196.length co21 ∧ nS k_ Ao24 t199.length co24 ∧ nS k_ Ao28 t230.length co28 ∧ nS k_ Ao35 t212.length co35 ∧ nS k_ Ao40 t215.length co40) (Kd.R_keptB (HO_212001.out) hkp (fun k_ hk_ hs_ => Or.elim hs_ (fun e_ => (hk_.2.2.2.1) e_) (fun e_ => (hk_.2.2.2.2) e_))) (fun k_ hk_ => ⟨hk_.1.1, hk_.1.2.1, hk_.1.2.2.1, hk_.1.2.2.2.1, hk_.1.2.2.2.2⟩)); replace BK188 := Aside0.mk (blk_kept (xb BK188.out) hkp (fun hs_ => Or.elim hs_ (fun e_ => (fun e_ => (Kd.R_ne HO_221000.out BK188.out (by decide)) e_) e_) (fun e_ => (fun e_ => (Kd.R_ne HO_221001.out BK188.out (by decide)) e_) e_))); replace BK204 := Aside0.mk (blk_kept (xb BK204.out) hkp (fun hs_ => Or.elim hs_ (fun e_ => (fun e_ => (Kd.R_ne HO_221000.out BK204.out (by decide)) e_) e_) (fun e_ => (fun e_ => (Kd.R_ne HO_221001.out BK204.out (by decide)) e_) e_))); replace BK211 := Aside0.mk (blk_kept (xb BK211.out) hkp (fun hs_ => Or.elim hs_ (fun e_ => (fun e_ => (Kd.R_ne HO_221000.out BK211.out (by decide)) e_) e_) (fun e_ => (fun e_ => (Kd.R_ne HO_221001.out BK211.out (by decide)) e_) e_))); replace BK220 := Aside0.mk (blk_kept (xb BK220.out) hkp (fun hs_ => Or.elim hs_ (fun e_ => (fun e_ => (Kd.R_ne HO_221000.out BK220.out (by decide)) e_) e_) (fun e_ => (fun e_ => (Kd.R_ne HO_221001.out BK220.out (by decide)) e_) e_))); replace HO_221000 := Aside0.mk (Kd.R_reok rfl hy0 (fun k_ e_ => HO_221000.out.1 k_ e_)); replace HO_221001 := Aside0.mk (Kd.R_reok rfl hy1 (fun k_ e_ => HO_221001.out.1 k_ e_)); replace HB := Aside0.mk (hb); (try clear hb); (try clear hkp); (try clear hy0); (try clear hy1); have hcz125_0 : w124.cell? ⟨gb220, 0, none⟩ = some (.slice Ao35 t212.length co35) := (blk_cell BK220.out 0).trans rfl; have hcz125_1 : w124.cell? ⟨gb220, 1, none⟩ = some (.slice Ao40 t215.length co40) := (blk_cell BK220.out 1).trans rfl; have hfz125_0 := blk_frozen BK220.out 0; have hfz125_1 := blk_frozen BK220.out 1) | ((with_reducible refine gate_callee (f := 21) rfl ?_); refine goesL_ (some 82) rfl rfl Try.func21 (by kernel_rfl) rfl #[.agg #[.slice Ao35 t234.length co35, .slice Ao40 t235.length co40], .int .i64 1] rfl (by (try simp only [List.map_toArray, List.map_cons, List.map_nil]); first | done | (rw [show t234.length = t212.length from (Kd.R_reads' HO_221000.out).1.symm, show t235.length = t215.length from (Kd.R_reads' HO_221001.out).1.symm] <;> rfl) | rfl | (simp only [List.length_drop, List.length_take]; rfl)) ?_; (with_reducible refine (laws_heldVessels.calls kj72 _ _ t234 _ _ t235 1 t236 _ ?side1 ?side2 ?side3 ?side4 A114.out).mono ?_); (case side1 => exact xd ((Kd.R_reads' HO_221000.out).2.2)); (case side2 => rw [show t234.length = t212.length from (Kd.R_reads' HO_221000.out).1.symm]; exact (Kd.R_reads' HO_221000.out).2.1); (case side3 => exact xd ((Kd.R_reads' HO_221001.out).2.2)); (case side4 => rw [show t235.length = t215.length from (Kd.R_reads' HO_221001.out).1.symm]; exact (Kd.R_reads' HO_221001.out).2.1); rintro e w126 ⟨rfl, hb⟩; refine ⟨_, rfl, ?_⟩; replace HO_205000 := xq HO_205000 hb; replace HO_205001 := xq HO_205001 hb; replace HO_212000 := xq HO_212000 hb; replace HO_212001 := xq HO_212001 hb; replace HO_221000 := xq HO_221000 hb; replace HO_221001 := xq HO_221001 hb; replace BK188 := xk BK188 hb; replace BK204 := xk BK204 hb; replace BK211 := xk BK211 hb; replace BK220 := xk BK220 hb; replace HB := xp HB hb; (try clear hb); (try clear hb2); (try clear hk); (try clear hi); have hnb127 := NB188_204.out; have hnc127 := NB204_188.out; have hnb128 := NB188_211.out; have hnc128 := NB211_188.out; have hcz129_0 : w126.cell? ⟨gb188, 0, none⟩ = some (.slice A0_0 l0_0.length c0_0) := (blk_cell BK188.out 0).trans rfl; have hcz129_1 : w126.cell? ⟨gb188, 1, none⟩ = some (.slice A0_1 l0_1.length c0_1) := (blk_cell BK188.out 1).trans rfl; have hfz129_0 := blk_frozen BK188.out 0; have hfz129_1 := blk_frozen BK188.out 1) | ((with_reducible refine gate_callee (f := 17) rfl ?_); refine goesL_ (some 90) rfl rfl Try.func17 (by kernel_rfl) rfl #[.agg #[.slice A0_0 l0_0.length c0_0, .slice A0_1 l0_1.length c0_1]] rfl (by (try simp only [List.map_toArray, List.map_cons, List.map_nil]); first | done | rfl | (simp only [List.length_drop, List.length_take]; rfl)) ?_; (with_reducible refine (laws_toVessels.calls kj72 _ _ l0_0 _ _ l0_1 t237 t240 _ ?side1 ?side2 ?side3 ?side4 A117.out).mono ?_); (case side1 => exact xd ((Kd.C_below HR0_0.out HB.out))); (case side2 => exact HC0_0.out); (case side3 => exact xd ((Kd.C_below HR0_1.out HB.out))); (case side4 => exact HC0_1.out); rintro e w130 ⟨v238, v241, rfl, ho0, ho1, hb⟩; refine ⟨_, rfl, ?_⟩; have HO239 := Aside0.mk (Kd.R_lower (Kd.R_new' (Kd.R_new' (Kd.R_new' (Kd.R_new' (Kd.R_new' (Kd.R_new' ho0 (Kd.R_lt (xr HO_205000.out))) (Kd.R_lt (xr HO_205001.out))) (Kd.R_lt (xr HO_212000.out))) (Kd.R_lt (xr HO_212001.out))) (Kd.R_lt (xr HO_221000.out))) (Kd.R_lt (xr HO_221001.out))) (below_size (xs HB.out))); have HO242 := Aside0.mk (Kd.R_lower (Kd.R_new' (Kd.R_new' (Kd.R_new' (Kd.R_new' (Kd.R_new' (Kd.R_new' ho1 (Kd.R_lt (xr HO_205000.out))) (Kd.R_lt (xr HO_205001.out))) (Kd.R_lt (xr HO_212000.out))) (Kd.R_lt (xr HO_212001.out))) (Kd.R_lt (xr HO_221000.out))) (Kd.R_lt (xr HO_221001.out))) (below_size (xs HB.out))); replace HO_205000 := xt HO_205000 hb ho0 ho1; replace HO_205001 := xt HO_205001 hb ho0 ho1; replace HO_212000 := xt HO_212000 hb ho0 ho1; replace HO_212001 := xt HO_212001 hb ho0 ho1; replace HO_221000 := xt HO_221000 hb ho0 ho1; replace HO_221001 := xt HO_221001 hb ho0 ho1; replace BK188 := xk BK188 hb; replace BK204 := xk BK204 hb; replace BK211 := xk BK211 hb; replace BK220 := xk BK220 hb; replace HB := xp HB hb; (try clear hb); (try clear hb2); (try clear hk); (try clear hi); (try clear ho0); (try clear ho1); obtain ⟨Ao131, co131, eo131⟩ := Kd.R_slice HO239.out; subst eo131; obtain ⟨Ao132, co132, eo132⟩ := Kd.R_slice HO242.out; subst eo132) | ((with_reducible refine gate_callee (f := 25) rfl ?_); refine goesL_ (some 91) rfl rfl Try.func25 (by kernel_rfl) rfl #[.agg #[.slice Ao131 t237.length co131, .slice Ao132 t240.length co132]] rfl (by (try simp only [List.map_toArray, List.map_cons, List.map_nil]); first | done | rfl | (simp only [List.length_drop, List.length_take]; rfl)) ?_; (with_reducible refine (impl_LeastScale.calls kj72 _ _ t237 _ _ t240 t243 t246 t249 t250 _ ?side1 ?side2 ?side3 ?side4 A118.out).mono ?_); (case side1 => exact xd ((Kd.R_reads' HO239.out).2.2)); (case side2 => exact (Kd.R_reads' HO239.out).2.1); (case side3 => exact xd ((Kd.R_reads' HO242.out).2.2)); (case side4 => exact (Kd.R_reads' HO242.out).2.1); rintro e w133 ⟨v244, v247, rfl, ho0, ho1, hb⟩; refine ⟨_, rfl, ?_⟩; have HO245 := Aside0.mk (Kd.R_lower (Kd.R_new' (Kd.R_new' (Kd.R_new' (Kd.R_new' (Kd.R_new' (Kd.R_new' (Kd.R_new' (Kd.R_new' ho0 (Kd.R_lt (xr HO_205000.out))) (Kd.R_lt (xr HO_205001.out))) (Kd.R_lt (xr HO_212000.out))) (Kd.R_lt (xr HO_212001.out))) (Kd.R_lt (xr HO_221000.out))) (Kd.R_lt (xr HO_221001.out))) (Kd.R_lt (xr HO239.out))) (Kd.R_lt (xr HO242.out))) (below_size (xs HB.out))); have HO248 := Aside0.mk (Kd.R_lower (Kd.R_new' (Kd.R_new' (Kd.R_new' (Kd.R_new' (Kd.R_new' (Kd.R_new' (Kd.R_new' (Kd.R_new' ho1 (Kd.R_lt (xr HO_205000.out))) (Kd.R_lt (xr HO_205001.out))) (Kd.R_lt (xr HO_212000.out))) (Kd.R_lt (xr HO_212001.out))) (Kd.R_lt (xr HO_221000.out))) (Kd.R_lt (xr HO_221001.out))) (Kd.R_lt (xr HO239.out))) (Kd.R_lt (xr HO242.out))) (below_size (xs HB.out))); replace HO_205000 := xt HO_205000 hb ho0 ho1; replace HO_205001 := xt HO_205001 hb ho0 ho1; replace HO_212000 := xt HO_212000 hb ho0 ho1; replace HO_212001 := xt HO_212001 hb ho0 ho1; replace HO_221000 := xt HO_221000 hb ho0 ho1; replace HO_221001 := xt HO_221001 hb ho0 ho1; replace HO239 := xt HO239 hb ho0 ho1; replace HO242 := xt HO242 hb ho0 ho1; replace BK188 := xk BK188 hb; replace BK204 := xk BK204 hb; replace BK211 := xk BK211 hb; replace BK220 := xk BK220 hb; replace HB := xp HB hb; (try clear hb); (try clear hb2); (try clear hk); (try clear hi); (try clear ho0); (try clear ho1)) | ((with_reducible refine gate_dst (N := 14) rfl ?_); refine box_event ?hg (N := 14) ?hd (cs := #[.slice none 0 0, .slice none 0 0]) (t := 26) ?hr ?_; (case hd => rfl); (case hg => rfl); (case hr => first | (go_simp; done) | (go_simp; rfl)); intro gb251 hg w134 hbox hb; replace HO_205000 := xq HO_205000 hb; replace HO_205001 := xq HO_205001 hb; replace HO_212000 := xq HO_212000 hb; replace HO_212001 := xq HO_212001 hb; replace HO_221000 := xq HO_221000 hb; replace HO_221001 := xq HO_221001 hb; replace HO239 := xq HO239 hb; replace HO242 := xq HO242 hb; replace HO245 := xq HO245 hb; replace HO248 := xq HO248 hb; have BK251 := Aside0.mk (hbox); have GW251 := xg HB hg; have GE251 := xg HB hg; replace HB := xp HB hb; have NB188_251 := xl BK188 hg; have NB251_188 := xh BK188 hg; replace BK188 := xk BK188 hb; have NB204_251 := xl BK204 hg; have NB251_204 := xh BK204 hg; replace BK204 := xk BK204 hb; have NB211_251 := xl BK211 hg; have NB251_211 := xh BK211 hg; replace BK211 := xk BK211 hb; have NB220_251 := xl BK220 hg; have NB251_220 := xh BK220 hg; replace BK220 := xk BK220 hb; clear hb hbox hg; obtain ⟨Ao135, co135, eo135⟩ := Kd.R_slice HO245.out; subst eo135; have hnb136 := NB251_188.out; have hnc136 := NB188_251.out; have hnb137 := NB251_204.out; have hnc137 := NB204_251.out; have hnb138 := NB251_211.out; have hnc138 := NB211_251.out; have hnb139 := NB251_220.out; have hnc139 := NB220_251.out; have hcz140_0 : w134.cell? ⟨gb251, 0, none⟩ = some (.slice none 0 0) := (blk_cell BK251.out 0).trans rfl; have hcz140_1 : w134.cell? ⟨gb251, 1, none⟩ = some (.slice none 0 0) := (blk_cell BK251.out 1).trans rfl; have hfz140_0 := blk_frozen BK251.out 0; have hfz140_1 := blk_frozen BK251.out 1; obtain ⟨Ao141, co141, eo141⟩ := Kd.R_slice HO248.out; subst eo141))
           (try simp only [Act.put, List.setIfInBounds_toArray, List.set_cons_zero, List.set_cons_succ])
           go_cut [108] (fun v108 wc => ∃ (kq : Nat) (x108_118 : Bool), v108 = .bool x108_118 ∧ Aside0 (laws_FnExactLeastScale.j2 kq t233 x108_118 t234 t235 = some true) ∧ Aside0 (kq ≤ kj72) ∧ Aside0 (Kd.R (Kd.int .i64) 3 wc w.heap.size (fun k_ => nS k_ Ao24 t199.length co24 ∧ nS k_ Ao28 t230.length co28 ∧ nS k_ Ao32 t231.length co32 ∧ nS k_ Ao35 t212.length co35 ∧ nS k_ Ao40 t215.length co40 ∧ nS k_ Ao135 t243.length co135 ∧ nS k_ Ao141 t246.length co141) (.slice Ao21 t196.length co21) t196) ∧ Aside0 (Kd.R (Kd.int .i64) 3 wc w.heap.size (fun k_ => nS k_ Ao21 t196.length co21 ∧ nS k_ Ao28 t230.length co28 ∧ nS k_ Ao32 t231.length co32 ∧ nS k_ Ao35 t212.length co35 ∧ nS k_ Ao40 t215.length co40 ∧ nS k_ Ao135 t243.length co135 ∧ nS k_ Ao141 t246.length co141) (.slice Ao24 t199.length co24) t199) ∧ Aside0 (Kd.R (Kd.int .i64) 3 wc w.heap.size (fun k_ => nS k_ Ao21 t196.length co21 ∧ nS k_ Ao24 t199.length co24 ∧ nS k_ Ao32 t231.length co32 ∧ nS k_ Ao35 t212.length co35 ∧ nS k_ Ao40 t215.length co40 ∧ nS k_ Ao135 t243.length co135 ∧ nS k_ Ao141 t246.length co141) (.slice Ao28 t230.length co28) t230) ∧ Aside0 (Kd.R (Kd.int .i64) 3 wc w.heap.size (fun k_ => nS k_ Ao21 t196.length co21 ∧ nS k_ Ao24 t199.length co24 ∧ nS k_ Ao28 t230.length co28 ∧ nS k_ Ao35 t212.length co35 ∧ nS k_ Ao40 t215.length co40 ∧ nS k_ Ao135 t243.length co135 ∧ nS k_ Ao141 t246.length co141) (.slice Ao32 t231.length co32) t231) ∧ Aside0 (Kd.R (Kd.int .i64) 3 wc w.heap.size (fun k_ => nS k_ Ao21 t196.length co21 ∧ nS k_ Ao24 t199.length co24 ∧ nS k_ Ao28 t230.length co28 ∧ nS k_ Ao32 t231.length co32 ∧ nS k_ Ao40 t215.length co40 ∧ nS k_ Ao135 t243.length co135 ∧ nS k_ Ao141 t246.length co141) (.slice Ao35 t212.length co35) t234) ∧ Aside0 (Kd.R (Kd.int .i64) 3 wc w.heap.size (fun k_ => nS k_ Ao21 t196.length co21 ∧ nS k_ Ao24 t199.length co24 ∧ nS k_ Ao28 t230.length co28 ∧ nS k_ Ao32 t231.length co32 ∧ nS k_ Ao35 t212.length co35 ∧ nS k_ Ao135 t243.length co135 ∧ nS k_ Ao141 t246.length co141) (.slice Ao40 t215.length co40) t235) ∧ Aside0 (Kd.R (Kd.int .i64) 3 wc w.heap.size (fun k_ => nS k_ Ao21 t196.length co21 ∧ nS k_ Ao24 t199.length co24 ∧ nS k_ Ao28 t230.length co28 ∧ nS k_ Ao32 t231.length co32 ∧ nS k_ Ao35 t212.length co35 ∧ nS k_ Ao40 t215.length co40 ∧ nS k_ Ao141 t246.length co141) (.slice Ao135 t243.length co135) t243) ∧ Aside0 (Kd.R (Kd.int .i64) 3 wc w.heap.size (fun k_ => nS k_ Ao21 t196.length co21 ∧ nS k_ Ao24 t199.length co24 ∧ nS k_ Ao28 t230.length co28 ∧ nS k_ Ao32 t231.length co32 ∧ nS k_ Ao35 t212.length co35 ∧ nS k_ Ao40 t215.length co40 ∧ nS k_ Ao135 t243.length co135) (.slice Ao141 t246.length co141) t246) ∧ Aside0 (wc.heap[gb188]? = some (.cells #[(.slice A0_0 l0_0.length c0_0), (.slice A0_1 l0_1.length c0_1)] 24 (0, 0))) ∧ Aside0 (wc.heap[gb204]? = some (.cells #[(.slice Ao21 t196.length co21), (.slice Ao24 t199.length co24)] 26 (0, 0))) ∧ Aside0 (wc.heap[gb211]? = some (.cells #[(.slice Ao28 t230.length co28), (.slice Ao32 t231.length co32)] 26 (0, 0))) ∧ Aside0 (wc.heap[gb220]? = some (.cells #[(.slice Ao35 t212.length co35), (.slice Ao40 t215.length co40)] 26 (0, 0))) ∧ Aside0 (wc.heap[gb251]? = some (.cells #[(.slice Ao135 t243.length co135), (.slice Ao141 t246.length co141)] 26 (0, 0))) ∧ Aside0 (Below w.heap.size w wc))
           case first =>
            have H := HC119.out
            clear HC119
            replace H := Option.bind_eq_some_iff.mp H
            obtain ⟨t252, A1420, H⟩ := H
            replace H : (if t252 = true then (if t249 = t202 then (laws_FnExactLeastScale.j2 kj72 t233 (t250 != t203) t234 t235) else (laws_FnExactLeastScale.j2 kj72 t233 true t234 t235)) else (laws_FnExactLeastScale.j2 kj72 t233 true t234 t235)) = some true := H
            have A142 := Aside0.mk A1420
            clear A1420
            by_cases c143 : t252 = true
            ·subst c143
             have H1 : (if t249 = t202 then (laws_FnExactLeastScale.j2 kj72 t233 (t250 != t203) t234 t235) else (laws_FnExactLeastScale.j2 kj72 t233 true t234 t235)) = some true := by first | (rw [if_pos rfl] at H; exact H) | rfl
             clear H
             have H := H1
             clear H1
             by_cases c144 : t249 = t202
             ·rw [if_pos c144] at H
              have c144b0 : (t249 == t202) = true := beq_iff_eq.mpr c144
              have c144b1 : (t249 != t202) = false := bne_eq_false_iff_eq.mpr c144
              clear c144
              (first | rw [c144b0] | (simp only [i64_w, i32_w]; rw [c144b0]) | skip)
              have H' := Aside0.mk H
              clear H
              have hnb145 := NB251_188.out
              have hnc145 := NB188_251.out
              have hnb146 := NB251_204.out
              have hnc146 := NB204_251.out
              have hnb147 := NB251_211.out
              have hnc147 := NB211_251.out
              have hnb148 := NB251_220.out
              have hnc148 := NB220_251.out
              have hcz149_0 : w134.cell? ⟨gb251, 0, none⟩ = some (.slice none 0 0) := (blk_cell BK251.out 0).trans rfl
              have hcz149_1 : w134.cell? ⟨gb251, 1, none⟩ = some (.slice none 0 0) := (blk_cell BK251.out 1).trans rfl
              have hfz149_0 := blk_frozen BK251.out 0
              have hfz149_1 := blk_frozen BK251.out 1
              have hnb150 := NB204_188.out
              have hnc150 := NB188_204.out
              have hnb151 := NB204_211.out
              have hnc151 := NB211_204.out
              have hnb152 := NB204_220.out
              have hnc152 := NB220_204.out
              have hcz153_0 : w134.cell? ⟨gb204, 0, none⟩ = some (.slice Ao21 t196.length co21) := (blk_cell BK204.out 0).trans rfl
              have hcz153_1 : w134.cell? ⟨gb204, 1, none⟩ = some (.slice Ao24 t199.length co24) := (blk_cell BK204.out 1).trans rfl
              have hfz153_0 := blk_frozen BK204.out 0
              have hfz153_1 := blk_frozen BK204.out 1
              go_wp2_with (first | ((with_reducible refine gate_callee (f := 19) rfl ?_); refine goesL_ (some 97) rfl rfl Try.func19 (by kernel_rfl) rfl #[.agg #[.slice Ao135 t243.length co135, .slice Ao141 t246.length co141], .agg #[.slice Ao21 t196.length co21, .slice Ao24 t199.length co24]] rfl (by (try simp only [List.map_toArray, List.map_cons, List.map_nil]); first | done | rfl | (simp only [List.length_drop, List.length_take]; rfl)) ?_; (with_reducible refine (laws_eqVessels.calls kj72 _ _ t243 _ _ t246 _ _ t196 _ _ t199 true _ ?side1 ?side2 ?side3 ?side4 ?side5 ?side6 ?side7 ?side8 A142.out).mono ?_); (case side1 => refine (Kd.R_reads' (e := 3) (base := w.heap.size) (ok := fun k_ => ((((((((nS k_ Ao141 t246.length co141 ∧ nS k_ Ao21 t196.length co21) ∧ nS k_ Ao24 t199.length co24) ∧ nS k_ Ao28 t230.length co28) ∧ nS k_ Ao32 t231.length co32) ∧ nS k_ Ao35 t212.length co35) ∧ nS k_ Ao40 t215.length co40) ∧ nS k_ Ao131 t237.length co131) ∧ nS k_ Ao132 t240.length co132)) (n := t243.length) (c := co135) ?_).2.2; exact (by (with_reducible repeat (first | apply Kd.R_alloc | apply Kd.R_drewN | apply Kd.R_drew)); exact (Kd.R_mono (Kd.R_far (p := ⟨gb251, 1, none⟩) (Kd.R_far (p := ⟨gb251, 0, none⟩) (Kd.R_types HO245.out BK251.out (by decide)) (fun _ hk => hk.2) (.slice Ao135 t243.length co135)) (fun _ hk => hk.2) (.slice Ao141 t246.length co141)) (fun _ h_ => h_.1)))); (case side2 => exact (Kd.R_reads' HO245.out).2.1); (case side3 => refine (Kd.R_reads' (e := 3) (base := w.heap.size) (ok := fun k_ => ((((((((nS k_ Ao135 t243.length co135 ∧ nS k_ Ao21 t196.length co21) ∧ nS k_ Ao24 t199.length co24) ∧ nS k_ Ao28 t230.length co28) ∧ nS k_ Ao32 t231.length co32) ∧ nS k_ Ao35 t212.length co35) ∧ nS k_ Ao40 t215.length co40) ∧ nS k_ Ao131 t237.length co131) ∧ nS k_ Ao132 t240.length co132)) (n := t246.length) (c := co141) ?_).2.2; exact (by (with_reducible repeat (first | apply Kd.R_alloc | apply Kd.R_drewN | apply Kd.R_drew)); exact (Kd.R_mono (Kd.R_far (p := ⟨gb251, 1, none⟩) (Kd.R_far (p := ⟨gb251, 0, none⟩) (Kd.R_types HO248.out BK251.out (by decide)) (fun _ hk => hk.2) (.slice Ao135 t243.length co135)) (fun _ hk => hk.2) (.slice Ao141 t246.length co141)) (fun _ h_ => h_.1)))); (case side4 => exact (Kd.R_reads' HO248.out).2.1); (case side5 => refine (Kd.R_reads' (e := 3) (base := w.heap.size) (ok := fun k_ => (((((nS k_ Ao24 t199.length co24 ∧ (nS k_ Ao28 t230.length co28 ∧ (nS k_ Ao32 t231.length co32 ∧ (nS k_ Ao35 t212.length co35 ∧ nS k_ Ao40 t215.length co40)))) ∧ nS k_ Ao131 t237.length co131) ∧ nS k_ Ao132 t240.length co132) ∧ nS k_ Ao135 t243.length co135) ∧ nS k_ Ao141 t246.length co141)) (n := t196.length) (c := co21) ?_).2.2; exact (by (with_reducible repeat (first | apply Kd.R_alloc | apply Kd.R_drewN | apply Kd.R_drew)); exact (Kd.R_mono (Kd.R_far (p := ⟨gb251, 1, none⟩) (Kd.R_far (p := ⟨gb251, 0, none⟩) (Kd.R_types HO_205000.out BK251.out (by decide)) (fun _ hk => hk.2) (.slice Ao135 t243.length co135)) (fun _ hk => hk.2) (.slice Ao141 t246.length co141)) (fun _ h_ => h_.1)))); (case side6 => exact (Kd.R_reads' HO_205000.out).2.1); (case side7 => refine (Kd.R_reads' (e := 3) (base := w.heap.size) (ok := fun k_ => (((((nS k_ Ao21 t196.length co21 ∧ (nS k_ Ao28 t230.length co28 ∧ (nS k_ Ao32 t231.length co32 ∧ (nS k_ Ao35 t212.length co35 ∧ nS k_ Ao40 t215.length co40)))) ∧ nS k_ Ao131 t237.length co131) ∧ nS k_ Ao132 t240.length co132) ∧ nS k_ Ao135 t243.length co135) ∧ nS k_ Ao141 t246.length co141)) (n := t199.length) (c := co24) ?_).2.2; exact (by (with_reducible repeat (first | apply Kd.R_alloc | apply Kd.R_drewN | apply Kd.R_drew)); exact (Kd.R_mono (Kd.R_far (p := ⟨gb251, 1, none⟩) (Kd.R_far (p := ⟨gb251, 0, none⟩) (Kd.R_types HO_205001.out BK251.out (by decide)) (fun _ hk => hk.2) (.slice Ao135 t243.length co135)) (fun _ hk => hk.2) (.slice Ao141 t246.length co141)) (fun _ h_ => h_.1)))); (case side8 => exact (Kd.R_reads' HO_205001.out).2.1); rintro e w154 ⟨rfl, hb⟩; refine ⟨_, rfl, ?_⟩; replace HO_205000 := Aside0.mk (Kd.R_below (by (with_reducible repeat (first | apply Kd.R_alloc | apply Kd.R_drewN | apply Kd.R_drew)); exact (Kd.R_mono (Kd.R_far (p := ⟨gb251, 1, none⟩) (Kd.R_far (p := ⟨gb251, 0, none⟩) (Kd.R_types HO_205000.out BK251.out (by decide)) (fun _ hk => hk.2) (.slice Ao135 t243.length co135)) (fun _ hk => hk.2) (.slice Ao141 t246.length co141)) (fun _ h_ => h_.1))) hb); replace HO_205001 := Aside0.mk (Kd.R_below (by (with_reducible repeat (first | apply Kd.R_alloc | apply Kd.R_drewN | apply Kd.R_drew)); exact (Kd.R_mono (Kd.R_far (p := ⟨gb251, 1, none⟩) (Kd.R_far (p := ⟨gb251, 0, none⟩) (Kd.R_types HO_205001.out BK251.out (by decide)) (fun _ hk => hk.2) (.slice Ao135 t243.length co135)) (fun _ hk => hk.2) (.slice Ao141 t246.length co141)) (fun _ h_ => h_.1))) hb); replace HO_212000 := Aside0.mk (Kd.R_below (by (with_reducible repeat (first | apply Kd.R_alloc | apply Kd.R_drewN | apply Kd.R_drew)); exact (Kd.R_mono (Kd.R_far (p := ⟨gb251, 1, none⟩) (Kd.R_far (p := ⟨gb251, 0, none⟩) (Kd.R_types HO_212000.out BK251.out (by decide)) (fun _ hk => hk.2) (.slice Ao135 t243.length co135)) (fun _ hk => hk.2) (.slice Ao141 t246.length co141)) (fun _ h_ => h_.1))) hb); replace HO_212001 := Aside0.mk (Kd.R_below (by (with_reducible repeat (first | apply Kd.R_alloc | apply Kd.R_drewN | apply Kd.R_drew)); exact (Kd.R_mono (Kd.R_far (p := ⟨gb251, 1, none⟩) (Kd.R_far (p := ⟨gb251, 0, none⟩) (Kd.R_types HO_212001.out BK251.out (by decide)) (fun _ hk => hk.2) (.slice Ao135 t243.length co135)) (fun _ hk => hk.2) (.slice Ao141 t246.length co141)) (fun _ h_ => h_.1))) hb); replace HO_221000 := Aside0.mk (Kd.R_below (by (with_reducible repeat (first | apply Kd.R_alloc | apply Kd.R_drewN | apply Kd.R_drew)); exact (Kd.R_mono (Kd.R_far (p := ⟨gb251, 1, none⟩) (Kd.R_far (p := ⟨gb251, 0, none⟩) (Kd.R_types HO_221000.out BK251.out (by decide)) (fun _ hk => hk.2) (.slice Ao135 t243.length co135)) (fun _ hk => hk.2) (.slice Ao141 t246.length co141)) (fun _ h_ => h_.1))) hb); replace HO_221001 := Aside0.mk (Kd.R_below (by (with_reducible repeat (first | apply Kd.R_alloc | apply Kd.R_drewN | apply Kd.R_drew)); exact (Kd.R_mono (Kd.R_far (p := ⟨gb251, 1, none⟩) (Kd.R_far (p := ⟨gb251, 0, none⟩) (Kd.R_types HO_221001.out BK251.out (by decide)) (fun _ hk => hk.2) (.slice Ao135 t243.length co135)) (fun _ hk => hk.2) (.slice Ao141 t246.length co141)) (fun _ h_ => h_.1))) hb); replace HO239 := Aside0.mk (Kd.R_below (by (with_reducible repeat (first | apply Kd.R_alloc | apply Kd.R_drewN | apply Kd.R_drew)); exact (Kd.R_mono (Kd.R_far (p := ⟨gb251, 1, none⟩) (Kd.R_far (p := ⟨gb251, 0, none⟩) (Kd.R_types HO239.out BK251.out (by decide)) (fun _ hk => hk.2) (.slice Ao135 t243.length co135)) (fun _ hk => hk.2) (.slice Ao141 t246.length co141)) (fun _ h_ => h_.1))) hb); replace HO242 := Aside0.mk (Kd.R_below (by (with_reducible repeat (first | apply Kd.R_alloc | apply Kd.R_drewN | apply Kd.R_drew)); exact (Kd.R_mono (Kd.R_far (p := ⟨gb251, 1, none⟩) (Kd.R_far (p := ⟨gb251, 0, none⟩) (Kd.R_types HO242.out BK251.out (by decide)) (fun _ hk => hk.2) (.slice Ao135 t243.length co135)) (fun _ hk => hk.2) (.slice Ao141 t246.length co141)) (fun _ h_ => h_.1))) hb); replace HO245 := Aside0.mk (Kd.R_below (by (with_reducible repeat (first | apply Kd.R_alloc | apply Kd.R_drewN | apply Kd.R_drew)); exact (Kd.R_mono (Kd.R_far (p := ⟨gb251, 1, none⟩) (Kd.R_far (p := ⟨gb251, 0, none⟩) (Kd.R_types HO245.out BK251.out (by decide)) (fun _ hk => hk.2) (.slice Ao135 t243.length co135)) (fun _ hk => hk.2) (.slice Ao141 t246.length co141)) (fun _ h_ => h_.1))) hb); replace HO248 := Aside0.mk (Kd.R_below (by (with_reducible repeat (first | apply Kd.R_alloc | apply Kd.R_drewN | apply Kd.R_drew)); exact (Kd.R_mono (Kd.R_far (p := ⟨gb251, 1, none⟩) (Kd.R_far (p := ⟨gb251, 0, none⟩) (Kd.R_types HO248.out BK251.out (by decide)) (fun _ hk => hk.2) (.slice Ao135 t243.length co135)) (fun _ hk => hk.2) (.slice Ao141 t246.length co141)) (fun _ h_ => h_.1))) hb); replace BK188 := Aside0.mk (blk_below (g := gb188) (o := .cells #[.slice A0_0 l0_0.length c0_0, .slice A0_1 l0_1.length c0_1] 24 (0, 0)) (xff NB188_251.out NB188_251.out BK188.out) hb); replace BK204 := Aside0.mk (blk_below (g := gb204) (o := .cells #[.slice Ao21 t196.length co21, .slice Ao24 t199.length co24] 26 (0, 0)) (xff NB204_251.out NB204_251.out BK204.out) hb); replace BK211 := Aside0.mk (blk_below (g := gb211) (o := .cells #[.slice Ao28 t230.length co28, .slice Ao32 t231.length co32] 26 (0, 0)) (xff NB211_251.out NB211_251.out BK211.out) hb); replace BK220 := Aside0.mk (blk_below (g := gb220) (o := .cells #[.slice Ao35 t212.length co35, .slice Ao40 t215.length co40] 26 (0, 0)) (xff NB220_251.out NB220_251.out BK220.out) hb); replace BK251 := Aside0.mk (blk_below (g := gb251) (o := .cells #[.slice Ao135 t243.length co135, .slice Ao141 t246.length co141] 26 (0, 0)) (by (with_reducible repeat (first | refine blk_drewN ?_ _ | refine blk_drew ?_ | refine blk_alloc ?_ _)); refine blk_put (cs := #[.slice Ao135 t243.length co135, .slice none 0 0]) ?_ 1 _ rfl; (with_reducible repeat (first | refine blk_drewN ?_ _ | refine blk_drew ?_ | refine blk_alloc ?_ _)); refine blk_put (cs := #[.slice none 0 0, .slice none 0 0]) ?_ 0 _ rfl; (with_reducible repeat (first | refine blk_drewN ?_ _ | refine blk_drew ?_ | refine blk_alloc ?_ _)); exact BK251.out) hb); replace HB := xp HB hb; (try clear hb); (try clear hb2); (try clear hk); (try clear hi)))
              go_meet
              case rel => exact ⟨_, ((t250 != t203)), (by first | rfl | (simp; done) | (simp [*]; done)), H', ⟨by have := HJ10.out; have := HJ72.out; first | omega | exact Nat.le_refl _⟩, ⟨by (try simp only [hl212000_72]); (try simp only [hl212001_72]); (with_reducible repeat (first | apply Kd.R_alloc | apply Kd.R_drewN | apply Kd.R_drew)); exact Kd.R_mono HO_205000.out (fun _ hk => ⟨hk.1.1.1.1.1, ⟨hk.1.1.1.1.2.1, ⟨hk.1.1.1.1.2.2.1, ⟨hk.1.1.1.1.2.2.2.1, ⟨hk.1.1.1.1.2.2.2.2, ⟨hk.1.2, hk.2⟩⟩⟩⟩⟩⟩)⟩, ⟨by (try simp only [hl212000_72]); (try simp only [hl212001_72]); (with_reducible repeat (first | apply Kd.R_alloc | apply Kd.R_drewN | apply Kd.R_drew)); exact Kd.R_mono HO_205001.out (fun _ hk => ⟨hk.1.1.1.1.1, ⟨hk.1.1.1.1.2.1, ⟨hk.1.1.1.1.2.2.1, ⟨hk.1.1.1.1.2.2.2.1, ⟨hk.1.1.1.1.2.2.2.2, ⟨hk.1.2, hk.2⟩⟩⟩⟩⟩⟩)⟩, ⟨by (try simp only [hl212000_72]); (try simp only [hl212001_72]); (with_reducible repeat (first | apply Kd.R_alloc | apply Kd.R_drewN | apply Kd.R_drew)); exact Kd.R_mono HO_212000.out (fun _ hk => ⟨hk.1.1.1.1.1, ⟨hk.1.1.1.1.2.1, ⟨hk.1.1.1.1.2.2.1, ⟨hk.1.1.1.1.2.2.2.1, ⟨hk.1.1.1.1.2.2.2.2, ⟨hk.1.2, hk.2⟩⟩⟩⟩⟩⟩)⟩, ⟨by (try simp only [hl212000_72]); (try simp only [hl212001_72]); (with_reducible repeat (first | apply Kd.R_alloc | apply Kd.R_drewN | apply Kd.R_drew)); exact Kd.R_mono HO_212001.out (fun _ hk => ⟨hk.1.1.1.1.1, ⟨hk.1.1.1.1.2.1, ⟨hk.1.1.1.1.2.2.1, ⟨hk.1.1.1.1.2.2.2.1, ⟨hk.1.1.1.1.2.2.2.2, ⟨hk.1.2, hk.2⟩⟩⟩⟩⟩⟩)⟩, ⟨by (try simp only [hl212000_72]); (try simp only [hl212001_72]); (with_reducible repeat (first | apply Kd.R_alloc | apply Kd.R_drewN | apply Kd.R_drew)); exact Kd.R_mono HO_221000.out (fun _ hk => ⟨hk.1.1.1.1.1, ⟨hk.1.1.1.1.2.1, ⟨hk.1.1.1.1.2.2.1, ⟨hk.1.1.1.1.2.2.2.1, ⟨hk.1.1.1.1.2.2.2.2, ⟨hk.1.2, hk.2⟩⟩⟩⟩⟩⟩)⟩, ⟨by (try simp only [hl212000_72]); (try simp only [hl212001_72]); (with_reducible repeat (first | apply Kd.R_alloc | apply Kd.R_drewN | apply Kd.R_drew)); exact Kd.R_mono HO_221001.out (fun _ hk => ⟨hk.1.1.1.1.1, ⟨hk.1.1.1.1.2.1, ⟨hk.1.1.1.1.2.2.1, ⟨hk.1.1.1.1.2.2.2.1, ⟨hk.1.1.1.1.2.2.2.2, ⟨hk.1.2, hk.2⟩⟩⟩⟩⟩⟩)⟩, ⟨by (try simp only [hl212000_72]); (try simp only [hl212001_72]); (with_reducible repeat (first | apply Kd.R_alloc | apply Kd.R_drewN | apply Kd.R_drew)); exact Kd.R_mono HO245.out (fun _ hk => ⟨hk.1.1.1.1.1.1.1.2, ⟨hk.1.1.1.1.1.1.2, ⟨hk.1.1.1.1.1.2, ⟨hk.1.1.1.1.2, ⟨hk.1.1.1.2, ⟨hk.1.1.2, hk.1.1.1.1.1.1.1.1⟩⟩⟩⟩⟩⟩)⟩, ⟨by (try simp only [hl212000_72]); (try simp only [hl212001_72]); (with_reducible repeat (first | apply Kd.R_alloc | apply Kd.R_drewN | apply Kd.R_drew)); exact Kd.R_mono HO248.out (fun _ hk => ⟨hk.1.1.1.1.1.1.1.2, ⟨hk.1.1.1.1.1.1.2, ⟨hk.1.1.1.1.1.2, ⟨hk.1.1.1.1.2, ⟨hk.1.1.1.2, ⟨hk.1.1.2, hk.1.1.1.1.1.1.1.1⟩⟩⟩⟩⟩⟩)⟩, ⟨by (try simp only [hl212000_72]); (try simp only [hl212001_72]); (with_reducible repeat (first | refine blk_drewN ?_ _ | refine blk_drew ?_ | refine blk_alloc ?_ _)); exact BK188.out⟩, ⟨by (try simp only [hl212000_72]); (try simp only [hl212001_72]); (with_reducible repeat (first | refine blk_drewN ?_ _ | refine blk_drew ?_ | refine blk_alloc ?_ _)); exact BK204.out⟩, ⟨by (try simp only [hl212000_72]); (try simp only [hl212001_72]); (with_reducible repeat (first | refine blk_drewN ?_ _ | refine blk_drew ?_ | refine blk_alloc ?_ _)); exact BK211.out⟩, ⟨by (try simp only [hl212000_72]); (try simp only [hl212001_72]); (with_reducible repeat (first | refine blk_drewN ?_ _ | refine blk_drew ?_ | refine blk_alloc ?_ _)); exact BK220.out⟩, ⟨by (try simp only [hl212000_72]); (try simp only [hl212001_72]); (with_reducible repeat (first | refine blk_drewN ?_ _ | refine blk_drew ?_ | refine blk_alloc ?_ _)); exact BK251.out⟩, ⟨xs HB.out⟩⟩
             ·rw [if_neg c144] at H
              have c144b0 : (t249 == t202) = false := beq_eq_false_iff_ne.mpr c144
              have c144b1 : (t249 != t202) = true := bne_iff_ne.mpr c144
              (first | rw [c144b0] | (simp only [i64_w, i32_w]; rw [c144b0]) | skip)
              have H' := Aside0.mk H
              clear H
              have hnb155 := NB251_188.out
              have hnc155 := NB188_251.out
              have hnb156 := NB251_204.out
              have hnc156 := NB204_251.out
              have hnb157 := NB251_211.out
              have hnc157 := NB211_251.out
              have hnb158 := NB251_220.out
              have hnc158 := NB220_251.out
              have hcz159_0 : w134.cell? ⟨gb251, 0, none⟩ = some (.slice none 0 0) := (blk_cell BK251.out 0).trans rfl
              have hcz159_1 : w134.cell? ⟨gb251, 1, none⟩ = some (.slice none 0 0) := (blk_cell BK251.out 1).trans rfl
              have hfz159_0 := blk_frozen BK251.out 0
              have hfz159_1 := blk_frozen BK251.out 1
              have hnb160 := NB204_188.out
              have hnc160 := NB188_204.out
              have hnb161 := NB204_211.out
              have hnc161 := NB211_204.out
              have hnb162 := NB204_220.out
              have hnc162 := NB220_204.out
              have hcz163_0 : w134.cell? ⟨gb204, 0, none⟩ = some (.slice Ao21 t196.length co21) := (blk_cell BK204.out 0).trans rfl
              have hcz163_1 : w134.cell? ⟨gb204, 1, none⟩ = some (.slice Ao24 t199.length co24) := (blk_cell BK204.out 1).trans rfl
              have hfz163_0 := blk_frozen BK204.out 0
              have hfz163_1 := blk_frozen BK204.out 1
              go_wp2_with (first | ((with_reducible refine gate_callee (f := 19) rfl ?_); refine goesL_ (some 97) rfl rfl Try.func19 (by kernel_rfl) rfl #[.agg #[.slice Ao135 t243.length co135, .slice Ao141 t246.length co141], .agg #[.slice Ao21 t196.length co21, .slice Ao24 t199.length co24]] rfl (by (try simp only [List.map_toArray, List.map_cons, List.map_nil]); first | done | rfl | (simp only [List.length_drop, List.length_take]; rfl)) ?_; (with_reducible refine (laws_eqVessels.calls kj72 _ _ t243 _ _ t246 _ _ t196 _ _ t199 true _ ?side1 ?side2 ?side3 ?side4 ?side5 ?side6 ?side7 ?side8 A142.out).mono ?_); (case side1 => refine (Kd.R_reads' (e := 3) (base := w.heap.size) (ok := fun k_ => ((((((((nS k_ Ao141 t246.length co141 ∧ nS k_ Ao21 t196.length co21) ∧ nS k_ Ao24 t199.length co24) ∧ nS k_ Ao28 t230.length co28) ∧ nS k_ Ao32 t231.length co32) ∧ nS k_ Ao35 t212.length co35) ∧ nS k_ Ao40 t215.length co40) ∧ nS k_ Ao131 t237.length co131) ∧ nS k_ Ao132 t240.length co132)) (n := t243.length) (c := co135) ?_).2.2; exact (by (with_reducible repeat (first | apply Kd.R_alloc | apply Kd.R_drewN | apply Kd.R_drew)); exact (Kd.R_mono (Kd.R_far (p := ⟨gb251, 1, none⟩) (Kd.R_far (p := ⟨gb251, 0, none⟩) (Kd.R_types HO245.out BK251.out (by decide)) (fun _ hk => hk.2) (.slice Ao135 t243.length co135)) (fun _ hk => hk.2) (.slice Ao141 t246.length co141)) (fun _ h_ => h_.1)))); (case side2 => exact (Kd.R_reads' HO245.out).2.1); (case side3 => refine (Kd.R_reads' (e := 3) (base := w.heap.size) (ok := fun k_ => ((((((((nS k_ Ao135 t243.length co135 ∧ nS k_ Ao21 t196.length co21) ∧ nS k_ Ao24 t199.length co24) ∧ nS k_ Ao28 t230.length co28) ∧ nS k_ Ao32 t231.length co32) ∧ nS k_ Ao35 t212.length co35) ∧ nS k_ Ao40 t215.length co40) ∧ nS k_ Ao131 t237.length co131) ∧ nS k_ Ao132 t240.length co132)) (n := t246.length) (c := co141) ?_).2.2; exact (by (with_reducible repeat (first | apply Kd.R_alloc | apply Kd.R_drewN | apply Kd.R_drew)); exact (Kd.R_mono (Kd.R_far (p := ⟨gb251, 1, none⟩) (Kd.R_far (p := ⟨gb251, 0, none⟩) (Kd.R_types HO248.out BK251.out (by decide)) (fun _ hk => hk.2) (.slice Ao135 t243.length co135)) (fun _ hk => hk.2) (.slice Ao141 t246.length co141)) (fun _ h_ => h_.1)))); (case side4 => exact (Kd.R_reads' HO248.out).2.1); (case side5 => refine (Kd.R_reads' (e := 3) (base := w.heap.size) (ok := fun k_ => (((((nS k_ Ao24 t199.length co24 ∧ (nS k_ Ao28 t230.length co28 ∧ (nS k_ Ao32 t231.length co32 ∧ (nS k_ Ao35 t212.length co35 ∧ nS k_ Ao40 t215.length co40)))) ∧ nS k_ Ao131 t237.length co131) ∧ nS k_ Ao132 t240.length co132) ∧ nS k_ Ao135 t243.length co135) ∧ nS k_ Ao141 t246.length co141)) (n := t196.length) (c := co21) ?_).2.2; exact (by (with_reducible repeat (first | apply Kd.R_alloc | apply Kd.R_drewN | apply Kd.R_drew)); exact (Kd.R_mono (Kd.R_far (p := ⟨gb251, 1, none⟩) (Kd.R_far (p := ⟨gb251, 0, none⟩) (Kd.R_types HO_205000.out BK251.out (by decide)) (fun _ hk => hk.2) (.slice Ao135 t243.length co135)) (fun _ hk => hk.2) (.slice Ao141 t246.length co141)) (fun _ h_ => h_.1)))); (case side6 => exact (Kd.R_reads' HO_205000.out).2.1); (case side7 => refine (Kd.R_reads' (e := 3) (base := w.heap.size) (ok := fun k_ => (((((nS k_ Ao21 t196.length co21 ∧ (nS k_ Ao28 t230.length co28 ∧ (nS k_ Ao32 t231.length co32 ∧ (nS k_ Ao35 t212.length co35 ∧ nS k_ Ao40 t215.length co40)))) ∧ nS k_ Ao131 t237.length co131) ∧ nS k_ Ao132 t240.length co132) ∧ nS k_ Ao135 t243.length co135) ∧ nS k_ Ao141 t246.length co141)) (n := t199.length) (c := co24) ?_).2.2; exact (by (with_reducible repeat (first | apply Kd.R_alloc | apply Kd.R_drewN | apply Kd.R_drew)); exact (Kd.R_mono (Kd.R_far (p := ⟨gb251, 1, none⟩) (Kd.R_far (p := ⟨gb251, 0, none⟩) (Kd.R_types HO_205001.out BK251.out (by decide)) (fun _ hk => hk.2) (.slice Ao135 t243.length co135)) (fun _ hk => hk.2) (.slice Ao141 t246.length co141)) (fun _ h_ => h_.1)))); (case side8 => exact (Kd.R_reads' HO_205001.out).2.1); rintro e w164 ⟨rfl, hb⟩; refine ⟨_, rfl, ?_⟩; replace HO_205000 := Aside0.mk (Kd.R_below (by (with_reducible repeat (first | apply Kd.R_alloc | apply Kd.R_drewN | apply Kd.R_drew)); exact (Kd.R_mono (Kd.R_far (p := ⟨gb251, 1, none⟩) (Kd.R_far (p := ⟨gb251, 0, none⟩) (Kd.R_types HO_205000.out BK251.out (by decide)) (fun _ hk => hk.2) (.slice Ao135 t243.length co135)) (fun _ hk => hk.2) (.slice Ao141 t246.length co141)) (fun _ h_ => h_.1))) hb); replace HO_205001 := Aside0.mk (Kd.R_below (by (with_reducible repeat (first | apply Kd.R_alloc | apply Kd.R_drewN | apply Kd.R_drew)); exact (Kd.R_mono (Kd.R_far (p := ⟨gb251, 1, none⟩) (Kd.R_far (p := ⟨gb251, 0, none⟩) (Kd.R_types HO_205001.out BK251.out (by decide)) (fun _ hk => hk.2) (.slice Ao135 t243.length co135)) (fun _ hk => hk.2) (.slice Ao141 t246.length co141)) (fun _ h_ => h_.1))) hb); replace HO_212000 := Aside0.mk (Kd.R_below (by (with_reducible repeat (first | apply Kd.R_alloc | apply Kd.R_drewN | apply Kd.R_drew)); exact (Kd.R_mono (Kd.R_far (p := ⟨gb251, 1, none⟩) (Kd.R_far (p := ⟨gb251, 0, none⟩) (Kd.R_types HO_212000.out BK251.out (by decide)) (fun _ hk => hk.2) (.slice Ao135 t243.length co135)) (fun _ hk => hk.2) (.slice Ao141 t246.length co141)) (fun _ h_ => h_.1))) hb); replace HO_212001 := Aside0.mk (Kd.R_below (by (with_reducible repeat (first | apply Kd.R_alloc | apply Kd.R_drewN | apply Kd.R_drew)); exact (Kd.R_mono (Kd.R_far (p := ⟨gb251, 1, none⟩) (Kd.R_far (p := ⟨gb251, 0, none⟩) (Kd.R_types HO_212001.out BK251.out (by decide)) (fun _ hk => hk.2) (.slice Ao135 t243.length co135)) (fun _ hk => hk.2) (.slice Ao141 t246.length co141)) (fun _ h_ => h_.1))) hb); replace HO_221000 := Aside0.mk (Kd.R_below (by (with_reducible repeat (first | apply Kd.R_alloc | apply Kd.R_drewN | apply Kd.R_drew)); exact (Kd.R_mono (Kd.R_far (p := ⟨gb251, 1, none⟩) (Kd.R_far (p := ⟨gb251, 0, none⟩) (Kd.R_types HO_221000.out BK251.out (by decide)) (fun _ hk => hk.2) (.slice Ao135 t243.length co135)) (fun _ hk => hk.2) (.slice Ao141 t246.length co141)) (fun _ h_ => h_.1))) hb); replace HO_221001 := Aside0.mk (Kd.R_below (by (with_reducible repeat (first | apply Kd.R_alloc | apply Kd.R_drewN | apply Kd.R_drew)); exact (Kd.R_mono (Kd.R_far (p := ⟨gb251, 1, none⟩) (Kd.R_far (p := ⟨gb251, 0, none⟩) (Kd.R_types HO_221001.out BK251.out (by decide)) (fun _ hk => hk.2) (.slice Ao135 t243.length co135)) (fun _ hk => hk.2) (.slice Ao141 t246.length co141)) (fun _ h_ => h_.1))) hb); replace HO239 := Aside0.mk (Kd.R_below (by (with_reducible repeat (first | apply Kd.R_alloc | apply Kd.R_drewN | apply Kd.R_drew)); exact (Kd.R_mono (Kd.R_far (p := ⟨gb251, 1, none⟩) (Kd.R_far (p := ⟨gb251, 0, none⟩) (Kd.R_types HO239.out BK251.out (by decide)) (fun _ hk => hk.2) (.slice Ao135 t243.length co135)) (fun _ hk => hk.2) (.slice Ao141 t246.length co141)) (fun _ h_ => h_.1))) hb); replace HO242 := Aside0.mk (Kd.R_below (by (with_reducible repeat (first | apply Kd.R_alloc | apply Kd.R_drewN | apply Kd.R_drew)); exact (Kd.R_mono (Kd.R_far (p := ⟨gb251, 1, none⟩) (Kd.R_far (p := ⟨gb251, 0, none⟩) (Kd.R_types HO242.out BK251.out (by decide)) (fun _ hk => hk.2) (.slice Ao135 t243.length co135)) (fun _ hk => hk.2) (.slice Ao141 t246.length co141)) (fun _ h_ => h_.1))) hb); replace HO245 := Aside0.mk (Kd.R_below (by (with_reducible repeat (first | apply Kd.R_alloc | apply Kd.R_drewN | apply Kd.R_drew)); exact (Kd.R_mono (Kd.R_far (p := ⟨gb251, 1, none⟩) (Kd.R_far (p := ⟨gb251, 0, none⟩) (Kd.R_types HO245.out BK251.out (by decide)) (fun _ hk => hk.2) (.slice Ao135 t243.length co135)) (fun _ hk => hk.2) (.slice Ao141 t246.length co141)) (fun _ h_ => h_.1))) hb); replace HO248 := Aside0.mk (Kd.R_below (by (with_reducible repeat (first | apply Kd.R_alloc | apply Kd.R_drewN | apply Kd.R_drew)); exact (Kd.R_mono (Kd.R_far (p := ⟨gb251, 1, none⟩) (Kd.R_far (p := ⟨gb251, 0, none⟩) (Kd.R_types HO248.out BK251.out (by decide)) (fun _ hk => hk.2) (.slice Ao135 t243.length co135)) (fun _ hk => hk.2) (.slice Ao141 t246.length co141)) (fun _ h_ => h_.1))) hb); replace BK188 := Aside0.mk (blk_below (g := gb188) (o := .cells #[.slice A0_0 l0_0.length c0_0, .slice A0_1 l0_1.length c0_1] 24 (0, 0)) (xff NB188_251.out NB188_251.out BK188.out) hb); replace BK204 := Aside0.mk (blk_below (g := gb204) (o := .cells #[.slice Ao21 t196.length co21, .slice Ao24 t199.length co24] 26 (0, 0)) (xff NB204_251.out NB204_251.out BK204.out) hb); replace BK211 := Aside0.mk (blk_below (g := gb211) (o := .cells #[.slice Ao28 t230.length co28, .slice Ao32 t231.length co32] 26 (0, 0)) (xff NB211_251.out NB211_251.out BK211.out) hb); replace BK220 := Aside0.mk (blk_below (g := gb220) (o := .cells #[.slice Ao35 t212.length co35, .slice Ao40 t215.length co40] 26 (0, 0)) (xff NB220_251.out NB220_251.out BK220.out) hb); replace BK251 := Aside0.mk (blk_below (g := gb251) (o := .cells #[.slice Ao135 t243.length co135, .slice Ao141 t246.length co141] 26 (0, 0)) (by (with_reducible repeat (first | refine blk_drewN ?_ _ | refine blk_drew ?_ | refine blk_alloc ?_ _)); refine blk_put (cs := #[.slice Ao135 t243.length co135, .slice none 0 0]) ?_ 1 _ rfl; (with_reducible repeat (first | refine blk_drewN ?_ _ | refine blk_drew ?_ | refine blk_alloc ?_ _)); refine blk_put (cs := #[.slice none 0 0, .slice none 0 0]) ?_ 0 _ rfl; (with_reducible repeat (first | refine blk_drewN ?_ _ | refine blk_drew ?_ | refine blk_alloc ?_ _)); exact BK251.out) hb); replace HB := xp HB hb; (try clear hb); (try clear hb2); (try clear hk); (try clear hi)))
              go_meet
              case rel => exact ⟨_, (true), (by first | rfl | (simp; done) | (simp [*]; done)), H', ⟨by have := HJ10.out; have := HJ72.out; first | omega | exact Nat.le_refl _⟩, ⟨by (try simp only [hl212000_72]); (try simp only [hl212001_72]); (with_reducible repeat (first | apply Kd.R_alloc | apply Kd.R_drewN | apply Kd.R_drew)); exact Kd.R_mono HO_205000.out (fun _ hk => ⟨hk.1.1.1.1.1, ⟨hk.1.1.1.1.2.1, ⟨hk.1.1.1.1.2.2.1, ⟨hk.1.1.1.1.2.2.2.1, ⟨hk.1.1.1.1.2.2.2.2, ⟨hk.1.2, hk.2⟩⟩⟩⟩⟩⟩)⟩, ⟨by (try simp only [hl212000_72]); (try simp only [hl212001_72]); (with_reducible repeat (first | apply Kd.R_alloc | apply Kd.R_drewN | apply Kd.R_drew)); exact Kd.R_mono HO_205001.out (fun _ hk => ⟨hk.1.1.1.1.1, ⟨hk.1.1.1.1.2.1, ⟨hk.1.1.1.1.2.2.1, ⟨hk.1.1.1.1.2.2.2.1, ⟨hk.1.1.1.1.2.2.2.2, ⟨hk.1.2, hk.2⟩⟩⟩⟩⟩⟩)⟩, ⟨by (try simp only [hl212000_72]); (try simp only [hl212001_72]); (with_reducible repeat (first | apply Kd.R_alloc | apply Kd.R_drewN | apply Kd.R_drew)); exact Kd.R_mono HO_212000.out (fun _ hk => ⟨hk.1.1.1.1.1, ⟨hk.1.1.1.1.2.1, ⟨hk.1.1.1.1.2.2.1, ⟨hk.1.1.1.1.2.2.2.1, ⟨hk.1.1.1.1.2.2.2.2, ⟨hk.1.2, hk.2⟩⟩⟩⟩⟩⟩)⟩, ⟨by (try simp only [hl212000_72]); (try simp only [hl212001_72]); (with_reducible repeat (first | apply Kd.R_alloc | apply Kd.R_drewN | apply Kd.R_drew)); exact Kd.R_mono HO_212001.out (fun _ hk => ⟨hk.1.1.1.1.1, ⟨hk.1.1.1.1.2.1, ⟨hk.1.1.1.1.2.2.1, ⟨hk.1.1.1.1.2.2.2.1, ⟨hk.1.1.1.1.2.2.2.2, ⟨hk.1.2, hk.2⟩⟩⟩⟩⟩⟩)⟩, ⟨by (try simp only [hl212000_72]); (try simp only [hl212001_72]); (with_reducible repeat (first | apply Kd.R_alloc | apply Kd.R_drewN | apply Kd.R_drew)); exact Kd.R_mono HO_221000.out (fun _ hk => ⟨hk.1.1.1.1.1, ⟨hk.1.1.1.1.2.1, ⟨hk.1.1.1.1.2.2.1, ⟨hk.1.1.1.1.2.2.2.1, ⟨hk.1.1.1.1.2.2.2.2, ⟨hk.1.2, hk.2⟩⟩⟩⟩⟩⟩)⟩, ⟨by (try simp only [hl212000_72]); (try simp only [hl212001_72]); (with_reducible repeat (first | apply Kd.R_alloc | apply Kd.R_drewN | apply Kd.R_drew)); exact Kd.R_mono HO_221001.out (fun _ hk => ⟨hk.1.1.1.1.1, ⟨hk.1.1.1.1.2.1, ⟨hk.1.1.1.1.2.2.1, ⟨hk.1.1.1.1.2.2.2.1, ⟨hk.1.1.1.1.2.2.2.2, ⟨hk.1.2, hk.2⟩⟩⟩⟩⟩⟩)⟩, ⟨by (try simp only [hl212000_72]); (try simp only [hl212001_72]); (with_reducible repeat (first | apply Kd.R_alloc | apply Kd.R_drewN | apply Kd.R_drew)); exact Kd.R_mono HO245.out (fun _ hk => ⟨hk.1.1.1.1.1.1.1.2, ⟨hk.1.1.1.1.1.1.2, ⟨hk.1.1.1.1.1.2, ⟨hk.1.1.1.1.2, ⟨hk.1.1.1.2, ⟨hk.1.1.2, hk.1.1.1.1.1.1.1.1⟩⟩⟩⟩⟩⟩)⟩, ⟨by (try simp only [hl212000_72]); (try simp only [hl212001_72]); (with_reducible repeat (first | apply Kd.R_alloc | apply Kd.R_drewN | apply Kd.R_drew)); exact Kd.R_mono HO248.out (fun _ hk => ⟨hk.1.1.1.1.1.1.1.2, ⟨hk.1.1.1.1.1.1.2, ⟨hk.1.1.1.1.1.2, ⟨hk.1.1.1.1.2, ⟨hk.1.1.1.2, ⟨hk.1.1.2, hk.1.1.1.1.1.1.1.1⟩⟩⟩⟩⟩⟩)⟩, ⟨by (try simp only [hl212000_72]); (try simp only [hl212001_72]); (with_reducible repeat (first | refine blk_drewN ?_ _ | refine blk_drew ?_ | refine blk_alloc ?_ _)); exact BK188.out⟩, ⟨by (try simp only [hl212000_72]); (try simp only [hl212001_72]); (with_reducible repeat (first | refine blk_drewN ?_ _ | refine blk_drew ?_ | refine blk_alloc ?_ _)); exact BK204.out⟩, ⟨by (try simp only [hl212000_72]); (try simp only [hl212001_72]); (with_reducible repeat (first | refine blk_drewN ?_ _ | refine blk_drew ?_ | refine blk_alloc ?_ _)); exact BK211.out⟩, ⟨by (try simp only [hl212000_72]); (try simp only [hl212001_72]); (with_reducible repeat (first | refine blk_drewN ?_ _ | refine blk_drew ?_ | refine blk_alloc ?_ _)); exact BK220.out⟩, ⟨by (try simp only [hl212000_72]); (try simp only [hl212001_72]); (with_reducible repeat (first | refine blk_drewN ?_ _ | refine blk_drew ?_ | refine blk_alloc ?_ _)); exact BK251.out⟩, ⟨xs HB.out⟩⟩
            ·replace c143 := Bool.eq_false_iff.mpr c143
             subst c143
             have H1 : (laws_FnExactLeastScale.j2 kj72 t233 true t234 t235) = some true := by first | (rw [if_neg (show ¬ (false = true) by decide)] at H; exact H) | rfl
             clear H
             have H := H1
             clear H1
             have H' := Aside0.mk H
             clear H
             have hnb165 := NB251_188.out
             have hnc165 := NB188_251.out
             have hnb166 := NB251_204.out
             have hnc166 := NB204_251.out
             have hnb167 := NB251_211.out
             have hnc167 := NB211_251.out
             have hnb168 := NB251_220.out
             have hnc168 := NB220_251.out
             have hcz169_0 : w134.cell? ⟨gb251, 0, none⟩ = some (.slice none 0 0) := (blk_cell BK251.out 0).trans rfl
             have hcz169_1 : w134.cell? ⟨gb251, 1, none⟩ = some (.slice none 0 0) := (blk_cell BK251.out 1).trans rfl
             have hfz169_0 := blk_frozen BK251.out 0
             have hfz169_1 := blk_frozen BK251.out 1
             have hnb170 := NB204_188.out
             have hnc170 := NB188_204.out
             have hnb171 := NB204_211.out
             have hnc171 := NB211_204.out
             have hnb172 := NB204_220.out
             have hnc172 := NB220_204.out
             have hcz173_0 : w134.cell? ⟨gb204, 0, none⟩ = some (.slice Ao21 t196.length co21) := (blk_cell BK204.out 0).trans rfl
             have hcz173_1 : w134.cell? ⟨gb204, 1, none⟩ = some (.slice Ao24 t199.length co24) := (blk_cell BK204.out 1).trans rfl
             have hfz173_0 := blk_frozen BK204.out 0
             have hfz173_1 := blk_frozen BK204.out 1
             go_wp2_with (first | ((with_reducible refine gate_callee (f := 19) rfl ?_); refine goesL_ (some 97) rfl rfl Try.func19 (by kernel_rfl) rfl #[.agg #[.slice Ao135 t243.length co135, .slice Ao141 t246.length co141], .agg #[.slice Ao21 t196.length co21, .slice Ao24 t199.length co24]] rfl (by (try simp only [List.map_toArray, List.map_cons, List.map_nil]); first | done | rfl | (simp only [List.length_drop, List.length_take]; rfl)) ?_; (with_reducible refine (laws_eqVessels.calls kj72 _ _ t243 _ _ t246 _ _ t196 _ _ t199 false _ ?side1 ?side2 ?side3 ?side4 ?side5 ?side6 ?side7 ?side8 A142.out).mono ?_); (case side1 => refine (Kd.R_reads' (e := 3) (base := w.heap.size) (ok := fun k_ => ((((((((nS k_ Ao141 t246.length co141 ∧ nS k_ Ao21 t196.length co21) ∧ nS k_ Ao24 t199.length co24) ∧ nS k_ Ao28 t230.length co28) ∧ nS k_ Ao32 t231.length co32) ∧ nS k_ Ao35 t212.length co35) ∧ nS k_ Ao40 t215.length co40) ∧ nS k_ Ao131 t237.length co131) ∧ nS k_ Ao132 t240.length co132)) (n := t243.length) (c := co135) ?_).2.2; exact (by (with_reducible repeat (first | apply Kd.R_alloc | apply Kd.R_drewN | apply Kd.R_drew)); exact (Kd.R_mono (Kd.R_far (p := ⟨gb251, 1, none⟩) (Kd.R_far (p := ⟨gb251, 0, none⟩) (Kd.R_types HO245.out BK251.out (by decide)) (fun _ hk => hk.2) (.slice Ao135 t243.length co135)) (fun _ hk => hk.2) (.slice Ao141 t246.length co141)) (fun _ h_ => h_.1)))); (case side2 => exact (Kd.R_reads' HO245.out).2.1); (case side3 => refine (Kd.R_reads' (e := 3) (base := w.heap.size) (ok := fun k_ => ((((((((nS k_ Ao135 t243.length co135 ∧ nS k_ Ao21 t196.length co21) ∧ nS k_ Ao24 t199.length co24) ∧ nS k_ Ao28 t230.length co28) ∧ nS k_ Ao32 t231.length co32) ∧ nS k_ Ao35 t212.length co35) ∧ nS k_ Ao40 t215.length co40) ∧ nS k_ Ao131 t237.length co131) ∧ nS k_ Ao132 t240.length co132)) (n := t246.length) (c := co141) ?_).2.2; exact (by (with_reducible repeat (first | apply Kd.R_alloc | apply Kd.R_drewN | apply Kd.R_drew)); exact (Kd.R_mono (Kd.R_far (p := ⟨gb251, 1, none⟩) (Kd.R_far (p := ⟨gb251, 0, none⟩) (Kd.R_types HO248.out BK251.out (by decide)) (fun _ hk => hk.2) (.slice Ao135 t243.length co135)) (fun _ hk => hk.2) (.slice Ao141 t246.length co141)) (fun _ h_ => h_.1)))); (case side4 => exact (Kd.R_reads' HO248.out).2.1); (case side5 => refine (Kd.R_reads' (e := 3) (base := w.heap.size) (ok := fun k_ => (((((nS k_ Ao24 t199.length co24 ∧ (nS k_ Ao28 t230.length co28 ∧ (nS k_ Ao32 t231.length co32 ∧ (nS k_ Ao35 t212.length co35 ∧ nS k_ Ao40 t215.length co40)))) ∧ nS k_ Ao131 t237.length co131) ∧ nS k_ Ao132 t240.length co132) ∧ nS k_ Ao135 t243.length co135) ∧ nS k_ Ao141 t246.length co141)) (n := t196.length) (c := co21) ?_).2.2; exact (by (with_reducible repeat (first | apply Kd.R_alloc | apply Kd.R_drewN | apply Kd.R_drew)); exact (Kd.R_mono (Kd.R_far (p := ⟨gb251, 1, none⟩) (Kd.R_far (p := ⟨gb251, 0, none⟩) (Kd.R_types HO_205000.out BK251.out (by decide)) (fun _ hk => hk.2) (.slice Ao135 t243.length co135)) (fun _ hk => hk.2) (.slice Ao141 t246.length co141)) (fun _ h_ => h_.1)))); (case side6 => exact (Kd.R_reads' HO_205000.out).2.1); (case side7 => refine (Kd.R_reads' (e := 3) (base := w.heap.size) (ok := fun k_ => (((((nS k_ Ao21 t196.length co21 ∧ (nS k_ Ao28 t230.length co28 ∧ (nS k_ Ao32 t231.length co32 ∧ (nS k_ Ao35 t212.length co35 ∧ nS k_ Ao40 t215.length co40)))) ∧ nS k_ Ao131 t237.length co131) ∧ nS k_ Ao132 t240.length co132) ∧ nS k_ Ao135 t243.length co135) ∧ nS k_ Ao141 t246.length co141)) (n := t199.length) (c := co24) ?_).2.2; exact (by (with_reducible repeat (first | apply Kd.R_alloc | apply Kd.R_drewN | apply Kd.R_drew)); exact (Kd.R_mono (Kd.R_far (p := ⟨gb251, 1, none⟩) (Kd.R_far (p := ⟨gb251, 0, none⟩) (Kd.R_types HO_205001.out BK251.out (by decide)) (fun _ hk => hk.2) (.slice Ao135 t243.length co135)) (fun _ hk => hk.2) (.slice Ao141 t246.length co141)) (fun _ h_ => h_.1)))); (case side8 => exact (Kd.R_reads' HO_205001.out).2.1); rintro e w174 ⟨rfl, hb⟩; refine ⟨_, rfl, ?_⟩; replace HO_205000 := Aside0.mk (Kd.R_below (by (with_reducible repeat (first | apply Kd.R_alloc | apply Kd.R_drewN | apply Kd.R_drew)); exact (Kd.R_mono (Kd.R_far (p := ⟨gb251, 1, none⟩) (Kd.R_far (p := ⟨gb251, 0, none⟩) (Kd.R_types HO_205000.out BK251.out (by decide)) (fun _ hk => hk.2) (.slice Ao135 t243.length co135)) (fun _ hk => hk.2) (.slice Ao141 t246.length co141)) (fun _ h_ => h_.1))) hb); replace HO_205001 := Aside0.mk (Kd.R_below (by (with_reducible repeat (first | apply Kd.R_alloc | apply Kd.R_drewN | apply Kd.R_drew)); exact (Kd.R_mono (Kd.R_far (p := ⟨gb251, 1, none⟩) (Kd.R_far (p := ⟨gb251, 0, none⟩) (Kd.R_types HO_205001.out BK251.out (by decide)) (fun _ hk => hk.2) (.slice Ao135 t243.length co135)) (fun _ hk => hk.2) (.slice Ao141 t246.length co141)) (fun _ h_ => h_.1))) hb); replace HO_212000 := Aside0.mk (Kd.R_below (by (with_reducible repeat (first | apply Kd.R_alloc | apply Kd.R_drewN | apply Kd.R_drew)); exact (Kd.R_mono (Kd.R_far (p := ⟨gb251, 1, none⟩) (Kd.R_far (p := ⟨gb251, 0, none⟩) (Kd.R_types HO_212000.out BK251.out (by decide)) (fun _ hk => hk.2) (.slice Ao135 t243.length co135)) (fun _ hk => hk.2) (.slice Ao141 t246.length co141)) (fun _ h_ => h_.1))) hb); replace HO_212001 := Aside0.mk (Kd.R_below (by (with_reducible repeat (first | apply Kd.R_alloc | apply Kd.R_drewN | apply Kd.R_drew)); exact (Kd.R_mono (Kd.R_far (p := ⟨gb251, 1, none⟩) (Kd.R_far (p := ⟨gb251, 0, none⟩) (Kd.R_types HO_212001.out BK251.out (by decide)) (fun _ hk => hk.2) (.slice Ao135 t243.length co135)) (fun _ hk => hk.2) (.slice Ao141 t246.length co141)) (fun _ h_ => h_.1))) hb); replace HO_221000 := Aside0.mk (Kd.R_below (by (with_reducible repeat (first | apply Kd.R_alloc | apply Kd.R_drewN | apply Kd.R_drew)); exact (Kd.R_mono (Kd.R_far (p := ⟨gb251, 1, none⟩) (Kd.R_far (p := ⟨gb251, 0, none⟩) (Kd.R_types HO_221000.out BK251.out (by decide)) (fun _ hk => hk.2) (.slice Ao135 t243.length co135)) (fun _ hk => hk.2) (.slice Ao141 t246.length co141)) (fun _ h_ => h_.1))) hb); replace HO_221001 := Aside0.mk (Kd.R_below (by (with_reducible repeat (first | apply Kd.R_alloc | apply Kd.R_drewN | apply Kd.R_drew)); exact (Kd.R_mono (Kd.R_far (p := ⟨gb251, 1, none⟩) (Kd.R_far (p := ⟨gb251, 0, none⟩) (Kd.R_types HO_221001.out BK251.out (by decide)) (fun _ hk => hk.2) (.slice Ao135 t243.length co135)) (fun _ hk => hk.2) (.slice Ao141 t246.length co141)) (fun _ h_ => h_.1))) hb); replace HO239 := Aside0.mk (Kd.R_below (by (with_reducible repeat (first | apply Kd.R_alloc | apply Kd.R_drewN | apply Kd.R_drew)); exact (Kd.R_mono (Kd.R_far (p := ⟨gb251, 1, none⟩) (Kd.R_far (p := ⟨gb251, 0, none⟩) (Kd.R_types HO239.out BK251.out (by decide)) (fun _ hk => hk.2) (.slice Ao135 t243.length co135)) (fun _ hk => hk.2) (.slice Ao141 t246.length co141)) (fun _ h_ => h_.1))) hb); replace HO242 := Aside0.mk (Kd.R_below (by (with_reducible repeat (first | apply Kd.R_alloc | apply Kd.R_drewN | apply Kd.R_drew)); exact (Kd.R_mono (Kd.R_far (p := ⟨gb251, 1, none⟩) (Kd.R_far (p := ⟨gb251, 0, none⟩) (Kd.R_types HO242.out BK251.out (by decide)) (fun _ hk => hk.2) (.slice Ao135 t243.length co135)) (fun _ hk => hk.2) (.slice Ao141 t246.length co141)) (fun _ h_ => h_.1))) hb); replace HO245 := Aside0.mk (Kd.R_below (by (with_reducible repeat (first | apply Kd.R_alloc | apply Kd.R_drewN | apply Kd.R_drew)); exact (Kd.R_mono (Kd.R_far (p := ⟨gb251, 1, none⟩) (Kd.R_far (p := ⟨gb251, 0, none⟩) (Kd.R_types HO245.out BK251.out (by decide)) (fun _ hk => hk.2) (.slice Ao135 t243.length co135)) (fun _ hk => hk.2) (.slice Ao141 t246.length co141)) (fun _ h_ => h_.1))) hb); replace HO248 := Aside0.mk (Kd.R_below (by (with_reducible repeat (first | apply Kd.R_alloc | apply Kd.R_drewN | apply Kd.R_drew)); exact (Kd.R_mono (Kd.R_far (p := ⟨gb251, 1, none⟩) (Kd.R_far (p := ⟨gb251, 0, none⟩) (Kd.R_types HO248.out BK251.out (by decide)) (fun _ hk => hk.2) (.slice Ao135 t243.length co135)) (fun _ hk => hk.2) (.slice Ao141 t246.length co141)) (fun _ h_ => h_.1))) hb); replace BK188 := Aside0.mk (blk_below (g := gb188) (o := .cells #[.slice A0_0 l0_0.length c0_0, .slice A0_1 l0_1.length c0_1] 24 (0, 0)) (xff NB188_251.out NB188_251.out BK188.out) hb); replace BK204 := Aside0.mk (blk_below (g := gb204) (o := .cells #[.slice Ao21 t196.length co21, .slice Ao24 t199.length co24] 26 (0, 0)) (xff NB204_251.out NB204_251.out BK204.out) hb); replace BK211 := Aside0.mk (blk_below (g := gb211) (o := .cells #[.slice Ao28 t230.length co28, .slice Ao32 t231.length co32] 26 (0, 0)) (xff NB211_251.out NB211_251.out BK211.out) hb); replace BK220 := Aside0.mk (blk_below (g := gb220) (o := .cells #[.slice Ao35 t212.length co35, .slice Ao40 t215.length co40] 26 (0, 0)) (xff NB220_251.out NB220_251.out BK220.out) hb); replace BK251 := Aside0.mk (blk_below (g := gb251) (o := .cells #[.slice Ao135 t243.length co135, .slice Ao141 t246.length co141] 26 (0, 0)) (by (with_reducible repeat (first | refine blk_drewN ?_ _ | refine blk_drew ?_ | refine blk_alloc ?_ _)); refine blk_put (cs := #[.slice Ao135 t243.length co135, .slice none 0 0]) ?_ 1 _ rfl; (with_reducible repeat (first | refine blk_drewN ?_ _ | refine blk_drew ?_ | refine blk_alloc ?_ _)); refine blk_put (cs := #[.slice none 0 0, .slice none 0 0]) ?_ 0 _ rfl; (with_reducible repeat (first | refine blk_drewN ?_ _ | refine blk_drew ?_ | refine blk_alloc ?_ _)); exact BK251.out) hb); replace HB := xp HB hb; (try clear hb); (try clear hb2); (try clear hk); (try clear hi)))
             go_meet
             case rel => exact ⟨_, (true), (by first | rfl | (simp; done) | (simp [*]; done)), H', ⟨by have := HJ10.out; have := HJ72.out; first | omega | exact Nat.le_refl _⟩, ⟨by (try simp only [hl212000_72]); (try simp only [hl212001_72]); (with_reducible repeat (first | apply Kd.R_alloc | apply Kd.R_drewN | apply Kd.R_drew)); exact Kd.R_mono HO_205000.out (fun _ hk => ⟨hk.1.1.1.1.1, ⟨hk.1.1.1.1.2.1, ⟨hk.1.1.1.1.2.2.1, ⟨hk.1.1.1.1.2.2.2.1, ⟨hk.1.1.1.1.2.2.2.2, ⟨hk.1.2, hk.2⟩⟩⟩⟩⟩⟩)⟩, ⟨by (try simp only [hl212000_72]); (try simp only [hl212001_72]); (with_reducible repeat (first | apply Kd.R_alloc | apply Kd.R_drewN | apply Kd.R_drew)); exact Kd.R_mono HO_205001.out (fun _ hk => ⟨hk.1.1.1.1.1, ⟨hk.1.1.1.1.2.1, ⟨hk.1.1.1.1.2.2.1, ⟨hk.1.1.1.1.2.2.2.1, ⟨hk.1.1.1.1.2.2.2.2, ⟨hk.1.2, hk.2⟩⟩⟩⟩⟩⟩)⟩, ⟨by (try simp only [hl212000_72]); (try simp only [hl212001_72]); (with_reducible repeat (first | apply Kd.R_alloc | apply Kd.R_drewN | apply Kd.R_drew)); exact Kd.R_mono HO_212000.out (fun _ hk => ⟨hk.1.1.1.1.1, ⟨hk.1.1.1.1.2.1, ⟨hk.1.1.1.1.2.2.1, ⟨hk.1.1.1.1.2.2.2.1, ⟨hk.1.1.1.1.2.2.2.2, ⟨hk.1.2, hk.2⟩⟩⟩⟩⟩⟩)⟩, ⟨by (try simp only [hl212000_72]); (try simp only [hl212001_72]); (with_reducible repeat (first | apply Kd.R_alloc | apply Kd.R_drewN | apply Kd.R_drew)); exact Kd.R_mono HO_212001.out (fun _ hk => ⟨hk.1.1.1.1.1, ⟨hk.1.1.1.1.2.1, ⟨hk.1.1.1.1.2.2.1, ⟨hk.1.1.1.1.2.2.2.1, ⟨hk.1.1.1.1.2.2.2.2, ⟨hk.1.2, hk.2⟩⟩⟩⟩⟩⟩)⟩, ⟨by (try simp only [hl212000_72]); (try simp only [hl212001_72]); (with_reducible repeat (first | apply Kd.R_alloc | apply Kd.R_drewN | apply Kd.R_drew)); exact Kd.R_mono HO_221000.out (fun _ hk => ⟨hk.1.1.1.1.1, ⟨hk.1.1.1.1.2.1, ⟨hk.1.1.1.1.2.2.1, ⟨hk.1.1.1.1.2.2.2.1, ⟨hk.1.1.1.1.2.2.2.2, ⟨hk.1.2, hk.2⟩⟩⟩⟩⟩⟩)⟩, ⟨by (try simp only [hl212000_72]); (try simp only [hl212001_72]); (with_reducible repeat (first | apply Kd.R_alloc | apply Kd.R_drewN | apply Kd.R_drew)); exact Kd.R_mono HO_221001.out (fun _ hk => ⟨hk.1.1.1.1.1, ⟨hk.1.1.1.1.2.1, ⟨hk.1.1.1.1.2.2.1, ⟨hk.1.1.1.1.2.2.2.1, ⟨hk.1.1.1.1.2.2.2.2, ⟨hk.1.2, hk.2⟩⟩⟩⟩⟩⟩)⟩, ⟨by (try simp only [hl212000_72]); (try simp only [hl212001_72]); (with_reducible repeat (first | apply Kd.R_alloc | apply Kd.R_drewN | apply Kd.R_drew)); exact Kd.R_mono HO245.out (fun _ hk => ⟨hk.1.1.1.1.1.1.1.2, ⟨hk.1.1.1.1.1.1.2, ⟨hk.1.1.1.1.1.2, ⟨hk.1.1.1.1.2, ⟨hk.1.1.1.2, ⟨hk.1.1.2, hk.1.1.1.1.1.1.1.1⟩⟩⟩⟩⟩⟩)⟩, ⟨by (try simp only [hl212000_72]); (try simp only [hl212001_72]); (with_reducible repeat (first | apply Kd.R_alloc | apply Kd.R_drewN | apply Kd.R_drew)); exact Kd.R_mono HO248.out (fun _ hk => ⟨hk.1.1.1.1.1.1.1.2, ⟨hk.1.1.1.1.1.1.2, ⟨hk.1.1.1.1.1.2, ⟨hk.1.1.1.1.2, ⟨hk.1.1.1.2, ⟨hk.1.1.2, hk.1.1.1.1.1.1.1.1⟩⟩⟩⟩⟩⟩)⟩, ⟨by (try simp only [hl212000_72]); (try simp only [hl212001_72]); (with_reducible repeat (first | refine blk_drewN ?_ _ | refine blk_drew ?_ | refine blk_alloc ?_ _)); exact BK188.out⟩, ⟨by (try simp only [hl212000_72]); (try simp only [hl212001_72]); (with_reducible repeat (first | refine blk_drewN ?_ _ | refine blk_drew ?_ | refine blk_alloc ?_ _)); exact BK204.out⟩, ⟨by (try simp only [hl212000_72]); (try simp only [hl212001_72]); (with_reducible repeat (first | refine blk_drewN ?_ _ | refine blk_drew ?_ | refine blk_alloc ?_ _)); exact BK211.out⟩, ⟨by (try simp only [hl212000_72]); (try simp only [hl212001_72]); (with_reducible repeat (first | refine blk_drewN ?_ _ | refine blk_drew ?_ | refine blk_alloc ?_ _)); exact BK220.out⟩, ⟨by (try simp only [hl212000_72]); (try simp only [hl212001_72]); (with_reducible repeat (first | refine blk_drewN ?_ _ | refine blk_drew ?_ | refine blk_alloc ?_ _)); exact BK251.out⟩, ⟨xs HB.out⟩⟩
           case rest =>
            clear HC119
            try clear c1
            try clear c2
            try clear p2
            try clear c3
            try clear c3b0
            try clear c4
            try clear c5
            try clear c6
            try clear c7
            try clear c8
            try clear c9
            try clear c10
            try clear c11
            try clear c12
            try clear c13
            try clear c14
            try clear c15
            try clear c16
            try clear c17
            try clear c19
            try clear c20
            try clear c21
            try clear c22
            try clear c24
            try clear c25
            try clear c29
            try clear c30
            try clear c36
            try clear c37
            try clear c38
            try clear c42
            try clear c43
            try clear c43b0
            try clear c43b1
            try clear c44
            try clear c45
            try clear c46
            try clear c48
            try clear c49
            try clear c52
            try clear c53
            try clear c54
            try clear c56
            try clear c57
            try clear c60
            try clear c61
            try clear c62
            try clear c64
            try clear c65
            try clear c68
            try clear c71
            try clear c79
            try clear c80
            try clear c81
            try clear c84
            try clear c84b0
            try clear c86
            try clear c87
            try clear c87b0
            try clear c87b1
            try clear c88
            try clear c89
            try clear c90
            try clear c92
            try clear c93
            try clear c96
            try clear c97
            try clear c98
            try clear c100
            try clear c101
            try clear c104
            try clear c105
            try clear c106
            try clear c108
            try clear c109
            try clear c112
            try clear c115
            try clear c115b0
            try clear c116
            try clear c116b0
            try clear c116b1
            try clear c120
            try clear c121
            try clear c122
            try clear c127
            try clear c128
            try clear c136
            try clear c137
            try clear c138
            try clear c139
            try clear c143
            try clear c144
            try clear c144b0
            try clear c144b1
            try clear c145
            try clear c146
            try clear c147
            try clear c148
            try clear c150
            try clear c151
            try clear c152
            try clear c155
            try clear c156
            try clear c157
            try clear c158
            try clear c160
            try clear c161
            try clear c162
            try clear c165
            try clear c166
            try clear c167
            try clear c168
            try clear c170
            try clear c171
            try clear c172
            try clear hcz102_0
            try clear hcz102_1
            try clear hcz107_0
            try clear hcz107_1
            try clear hcz110_0
            try clear hcz110_1
            try clear hcz123_0
            try clear hcz123_1
            try clear hcz125_0
            try clear hcz125_1
            try clear hcz129_0
            try clear hcz129_1
            try clear hcz13_0
            try clear hcz13_1
            try clear hcz140_0
            try clear hcz140_1
            try clear hcz149_0
            try clear hcz149_1
            try clear hcz153_0
            try clear hcz153_1
            try clear hcz159_0
            try clear hcz159_1
            try clear hcz15_0
            try clear hcz15_1
            try clear hcz163_0
            try clear hcz163_1
            try clear hcz169_0
            try clear hcz169_1
            try clear hcz173_0
            try clear hcz173_1
            try clear hcz23_0
            try clear hcz23_1
            try clear hcz25_0
            try clear hcz25_1
            try clear hcz31_0
            try clear hcz31_1
            try clear hcz39_0
            try clear hcz39_1
            try clear hcz47_0
            try clear hcz47_1
            try clear hcz50_0
            try clear hcz50_1
            try clear hcz55_0
            try clear hcz55_1
            try clear hcz58_0
            try clear hcz58_1
            try clear hcz5_0
            try clear hcz5_1
            try clear hcz63_0
            try clear hcz63_1
            try clear hcz66_0
            try clear hcz66_1
            try clear hcz82_0
            try clear hcz82_1
            try clear hcz91_0
            try clear hcz91_1
            try clear hcz94_0
            try clear hcz94_1
            try clear hcz99_0
            try clear hcz99_1
            try clear hfz102_0
            try clear hfz102_1
            try clear hfz107_0
            try clear hfz107_1
            try clear hfz110_0
            try clear hfz110_1
            try clear hfz123_0
            try clear hfz123_1
            try clear hfz125_0
            try clear hfz125_1
            try clear hfz129_0
            try clear hfz129_1
            try clear hfz13_0
            try clear hfz13_1
            try clear hfz140_0
            try clear hfz140_1
            try clear hfz149_0
            try clear hfz149_1
            try clear hfz153_0
            try clear hfz153_1
            try clear hfz159_0
            try clear hfz159_1
            try clear hfz15_0
            try clear hfz15_1
            try clear hfz163_0
            try clear hfz163_1
            try clear hfz169_0
            try clear hfz169_1
            try clear hfz173_0
            try clear hfz173_1
            try clear hfz23_0
            try clear hfz23_1
            try clear hfz25_0
            try clear hfz25_1
            try clear hfz31_0
            try clear hfz31_1
            try clear hfz39_0
            try clear hfz39_1
            try clear hfz47_0
            try clear hfz47_1
            try clear hfz50_0
            try clear hfz50_1
            try clear hfz55_0
            try clear hfz55_1
            try clear hfz58_0
            try clear hfz58_1
            try clear hfz5_0
            try clear hfz5_1
            try clear hfz63_0
            try clear hfz63_1
            try clear hfz66_0
            try clear hfz66_1
            try clear hfz82_0
            try clear hfz82_1
            try clear hfz91_0
            try clear hfz91_1
            try clear hfz94_0
            try clear hfz94_1
            try clear hfz99_0
            try clear hfz99_1
            try clear p2
            obtain ⟨kq, x108_118, rfl, HA, HJ118, HO_205000, HO_205001, HO_212000, HO_212001, HO_221000, HO_221001, HO_252000, HO_252001, BK188, BK204, BK211, BK220, BK251, HB⟩ := hcut
            have hl221000_118 := (Kd.R_reads' HO_221000.out).1
            rw [hl221000_118] at HO_221000
            (try simp only [hl221000_118])
            (try simp only [hl221000_118] at BK188)
            (try simp only [hl221000_118] at BK204)
            (try simp only [hl221000_118] at BK211)
            (try simp only [hl221000_118] at BK220)
            (try simp only [hl221000_118] at BK251)
            (try simp only [hl221000_118] at HO_205000)
            (try simp only [hl221000_118] at HO_205001)
            (try simp only [hl221000_118] at HO_212000)
            (try simp only [hl221000_118] at HO_212001)
            (try simp only [hl221000_118] at HO_221001)
            (try simp only [hl221000_118] at HO_252000)
            (try simp only [hl221000_118] at HO_252001)
            have hl221001_118 := (Kd.R_reads' HO_221001.out).1
            rw [hl221001_118] at HO_221001
            (try simp only [hl221001_118])
            (try simp only [hl221001_118] at BK188)
            (try simp only [hl221001_118] at BK204)
            (try simp only [hl221001_118] at BK211)
            (try simp only [hl221001_118] at BK220)
            (try simp only [hl221001_118] at BK251)
            (try simp only [hl221001_118] at HO_205000)
            (try simp only [hl221001_118] at HO_205001)
            (try simp only [hl221001_118] at HO_212000)
            (try simp only [hl221001_118] at HO_212001)
            (try simp only [hl221001_118] at HO_221000)
            (try simp only [hl221001_118] at HO_252000)
            (try simp only [hl221001_118] at HO_252001)
            cases kq with
            | zero => exact absurd HA.out (by simp [laws_FnExactLeastScale.j2])
            | succ kj118 =>
             have H := HA.out
             clear HA
             simp only [laws_FnExactLeastScale.j2] at H
             by_cases c175 : x108_118 = true
             ·subst c175
              have H1 : (some false) = some true := by first | (rw [if_pos rfl] at H; exact H) | rfl
              clear H
              have H := H1
              clear H1
              exact absurd H (by simp)
             ·replace c175 := Bool.eq_false_iff.mpr c175
              subst c175
              have H1 : ((laws_heldVessels.f kj118 t234 t235 1).bind fun t253 => (if t253 < 0 then (some false) else (if t253 = t233 then (some true) else (some false)))) = some true := by first | (rw [if_neg (show ¬ (false = true) by decide)] at H; exact H) | rfl
              clear H
              have H := H1
              clear H1
              replace H := Option.bind_eq_some_iff.mp H
              obtain ⟨t253, A1760, H⟩ := H
              replace H : (if t253 < 0 then (some false) else (if t253 = t233 then (some true) else (some false))) = some true := H
              have A176 := Aside0.mk A1760
              clear A1760
              by_cases c177 : t253 < 0
              ·rw [if_pos c177] at H
               have c177b0 : decide (t253 < 0) = true := decide_eq_true c177
               clear c177
               exact absurd H (by simp)
              ·rw [if_neg c177] at H
               have c177b0 : decide (t253 < 0) = false := decide_eq_false c177
               clear c177
               by_cases c178 : t253 = t233
               ·rw [if_pos c178] at H
                have c178b0 : (t253 == t233) = true := beq_iff_eq.mpr c178
                have c178b1 : (t253 != t233) = false := bne_eq_false_iff_eq.mpr c178
                clear c178
                clear H
                have hnb179 := NB220_188.out
                have hnc179 := NB188_220.out
                have hnb180 := NB220_204.out
                have hnc180 := NB204_220.out
                have hnb181 := NB220_211.out
                have hnc181 := NB211_220.out
                have hnb182 := NB220_251.out
                have hnc182 := NB251_220.out
                have hcz183_0 : wc.cell? ⟨gb220, 0, none⟩ = some (.slice Ao35 t234.length co35) := (blk_cell BK220.out 0).trans rfl
                have hcz183_1 : wc.cell? ⟨gb220, 1, none⟩ = some (.slice Ao40 t235.length co40) := (blk_cell BK220.out 1).trans rfl
                have hfz183_0 := blk_frozen BK220.out 0
                have hfz183_1 := blk_frozen BK220.out 1
                go_wp2_with (first | ((with_reducible refine gate_callee (f := 21) rfl ?_); refine goesL_ (some 111) rfl rfl Try.func21 (by kernel_rfl) rfl #[.agg #[.slice Ao35 t234.length co35, .slice Ao40 t235.length co40], .int .i64 1] rfl (by (try simp only [List.map_toArray, List.map_cons, List.map_nil]); first | done | rfl | (simp only [List.length_drop, List.length_take]; rfl)) ?_; (with_reducible refine (laws_heldVessels.calls kj118 _ _ t234 _ _ t235 1 t253 _ ?side1 ?side2 ?side3 ?side4 A176.out).mono ?_); (case side1 => exact xd ((Kd.R_reads' HO_221000.out).2.2)); (case side2 => exact (Kd.R_reads' HO_221000.out).2.1); (case side3 => exact xd ((Kd.R_reads' HO_221001.out).2.2)); (case side4 => exact (Kd.R_reads' HO_221001.out).2.1); rintro e w184 ⟨rfl, hb⟩; refine ⟨_, rfl, ?_⟩; replace HO_205000 := xq HO_205000 hb; replace HO_205001 := xq HO_205001 hb; replace HO_212000 := xq HO_212000 hb; replace HO_212001 := xq HO_212001 hb; replace HO_221000 := xq HO_221000 hb; replace HO_221001 := xq HO_221001 hb; replace HO_252000 := xq HO_252000 hb; replace HO_252001 := xq HO_252001 hb; replace BK188 := xk BK188 hb; replace BK204 := xk BK204 hb; replace BK211 := xk BK211 hb; replace BK220 := xk BK220 hb; replace BK251 := xk BK251 hb; replace HB := xp HB hb; (try clear hb); (try clear hb2); (try clear hk); (try clear hi)))
                go_ret
                exact ⟨by first | rfl | (simp [errW_none, errW_some] <;> rfl) | (simp [*, errW_none, errW_some] <;> rfl), by repeat (first | (with_reducible first | exact HB.out | apply below_alloc | apply pw_below_drewN | apply below_drew1 | refine below_set ?_ GE188.out | refine below_set ?_ GE204.out | refine below_set ?_ GE211.out | refine below_set ?_ GE220.out | refine below_set ?_ GE251.out) | exact HB.out)⟩
               ·rw [if_neg c178] at H
                have c178b0 : (t253 == t233) = false := beq_eq_false_iff_ne.mpr c178
                have c178b1 : (t253 != t233) = true := bne_iff_ne.mpr c178
                exact absurd H (by simp)
          ·rw [if_neg c116] at H
           have c116b0 : (t236 == t233) = false := beq_eq_false_iff_ne.mpr c116
           have c116b1 : (t236 != t233) = true := bne_iff_ne.mpr c116
           exact absurd H (by simp)
     ·replace c71 := Bool.eq_false_iff.mpr c71
      subst c71
      have H1 : (some false) = some true := by first | (rw [if_neg (show ¬ (false = true) by decide)] at H; exact H) | rfl
      clear H
      have H := H1
      clear H1
      exact absurd H (by simp)

end Go.Proofs.Ytobkbpoamicjgaa.PFnExactLeastScale

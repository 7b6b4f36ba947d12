/- Lean functions of the Go functions that the law FnExactFlowInto reaches, and the proofs that the calls come to what they say (made by program). -/
import Derived.Test.YtedkbaadbnpkoaaAb
import Derived.Test.YtedkbaadbnpkoaaPFnExactFlowIntox0
import Derived.Test.YtedkbaadbnpkoaaPFnExactFlowIntox1
import Derived.Test.YtedkbaadbnpkoaaPFnExactFlowIntox4
import Derived.Test.YtedkbaadbnpkoaaPFnExactFlowIntox7
namespace Go.Proofs.Ytedkbaadbnpkoaa.PFnExactFlowInto
open Go.RowKit Go.Proofs.YtedkbaadbnpkoaaW.PrintWords Go.Proofs.YtedkbaadbnpkoaaW.PrintLast Go.Proofs.YtedkbaadbnpkoaaW.PrintMore Go.Proofs.Ytedkbaadbnpkoaa.Ab
attribute [local go_sem] max2_int min2_int max_two min_two max_three min_three max_four min_four   -- for this text's walks alone
set_option linter.unusedVariables false
set_option linter.unusedSimpArgs false

/-! ### laws_FnExactFlowInto: function 11 -/
def laws_FnExactFlowInto.j0 : Nat → List (S66) → List (S63) → Bool → Option (Bool)
  | 0, _, _, _ => none
  | k + 1, x0, x8, x39 => if x39 = true then (some false) else ((laws_toTankS.f k x0).bind fun t268 => ((laws_eqTankS.f k x8 t268).bind fun t271 => (if t271 = true then (some true) else (some false))))
def laws_FnExactFlowInto.f (k : Nat) (l0 : List (S66)) (a1 : Int) : Option (Bool) := (laws_szTankS.f l0 1048576).bind fun t252 => (if t252 < 0 then (some true) else ((laws_toTankS.f k l0).bind fun t253 => ((spec_FlowInto.f k t253 a1).bind fun bt256 => ((laws_toTankS.f k l0).bind fun t260 => ((impl_FlowInto.f k t260 a1).bind fun bt263 => ((laws_eqRatio.f bt263.1 bt263.2.1 bt256.1 bt256.2.1).bind fun t267 => (if t267 = true then (laws_FnExactFlowInto.j0 k l0 t260 (bt263.2.2 != bt256.2.2)) else (laws_FnExactFlowInto.j0 k l0 t260 true))))))))
theorem laws_FnExactFlowInto.mono_l : ∀ k, (∀ y0 y1 y2, LeO (laws_FnExactFlowInto.j0 k y0 y1 y2) (laws_FnExactFlowInto.j0 (k + 1) y0 y1 y2))
 | 0 => fun _ _ _ r h => by simp [laws_FnExactFlowInto.j0] at h
 | k + 1 => by
  have ih0 := laws_FnExactFlowInto.mono_l k
  ·intro y0 y1 y2
   unfold laws_FnExactFlowInto.j0
   repeat' first
   | (with_reducible exact ih0 _ _ _)
   | (with_reducible exact impl_FlowInto.mono _ _ _)
   | (with_reducible exact laws_eqTankS.mono _ _ _)
   | (with_reducible exact laws_toTankS.mono _ _)
   | (with_reducible exact spec_FlowInto.mono _ _ _)
   | (with_reducible exact LeO.refl _)
   | (with_reducible exact LeO.none _)
   | (with_reducible refine LeO.ite ?_ ?_)
   | (with_reducible refine LeO.bind ?_ (fun _ => ?_))
   | exact ih0 _ _ _
   | exact impl_FlowInto.mono _ _ _
   | exact laws_eqTankS.mono _ _ _
   | exact laws_toTankS.mono _ _
   | exact spec_FlowInto.mono _ _ _
   | exact LeO.none _
   | refine LeO.ite ?_ ?_
   | refine LeO.bind ?_ (fun _ => ?_)
theorem laws_FnExactFlowInto.mono : ∀ a0 a1 k, LeO (laws_FnExactFlowInto.f k a0 a1) (laws_FnExactFlowInto.f (k + 1) a0 a1) := by
 intro a0 a1 k
 have ih0 := laws_FnExactFlowInto.mono_l k
 unfold laws_FnExactFlowInto.f
 repeat' first
   | (with_reducible exact ih0 _ _ _)
   | (with_reducible exact impl_FlowInto.mono _ _ _)
   | (with_reducible exact laws_eqTankS.mono _ _ _)
   | (with_reducible exact laws_toTankS.mono _ _)
   | (with_reducible exact spec_FlowInto.mono _ _ _)
   | (with_reducible exact LeO.refl _)
   | (with_reducible exact LeO.none _)
   | (with_reducible refine LeO.ite ?_ ?_)
   | (with_reducible refine LeO.bind ?_ (fun _ => ?_))
   | exact ih0 _ _ _
   | exact impl_FlowInto.mono _ _ _
   | exact laws_eqTankS.mono _ _ _
   | exact laws_toTankS.mono _ _
   | exact spec_FlowInto.mono _ _ _
   | exact LeO.none _
   | refine LeO.ite ?_ ?_
   | refine LeO.bind ?_ (fun _ => ?_)
set_option maxHeartbeats 8000000 in
set_option maxRecDepth 100000 in
theorem laws_FnExactFlowInto.calls (k : Nat) (A0 : Option Addr) (c0 : Nat) (l0 : List (S66)) (a1 : Int) (w : World) (hr0 : Kd.C k66 w A0 l0.length l0) (hc0 : l0.length ≤ c0) (h : laws_FnExactFlowInto.f k l0 a1 = some true) :
  Calls Try.prog 11 #[.slice A0 l0.length c0, .int .i64 a1] w fun e w' => e = .returned (.bool true) ∧ Below w.heap.size w w' := by
 have hu44 := Try.underlying44
 have HR0 := Aside0.mk hr0
 have HC0 := Aside0.mk hc0
 clear hr0 hc0
 have HB := Aside0.mk (Below.refl w.heap.size w)
 have H : ((laws_szTankS.f l0 1048576).bind fun t252 => (if t252 < 0 then (some true) else ((laws_toTankS.f k l0).bind fun t253 => ((spec_FlowInto.f k t253 a1).bind fun bt256 => ((laws_toTankS.f k l0).bind fun t260 => ((impl_FlowInto.f k t260 a1).bind fun bt263 => ((laws_eqRatio.f bt263.1 bt263.2.1 bt256.1 bt256.2.1).bind fun t267 => (if t267 = true then (laws_FnExactFlowInto.j0 k l0 t260 (bt263.2.2 != bt256.2.2)) else (laws_FnExactFlowInto.j0 k l0 t260 true))))))))) = some true := h
 clear h
 replace H := Option.bind_eq_some_iff.mp H
 obtain ⟨t252, A30, H⟩ := H
 replace H : (if t252 < 0 then (some true) else ((laws_toTankS.f k l0).bind fun t253 => ((spec_FlowInto.f k t253 a1).bind fun bt256 => ((laws_toTankS.f k l0).bind fun t260 => ((impl_FlowInto.f k t260 a1).bind fun bt263 => ((laws_eqRatio.f bt263.1 bt263.2.1 bt256.1 bt256.2.1).bind fun t267 => (if t267 = true then (laws_FnExactFlowInto.j0 k l0 t260 (bt263.2.2 != bt256.2.2)) else (laws_FnExactFlowInto.j0 k l0 t260 true)))))))) = some true := H
 have A3 := Aside0.mk A30
 clear A30
 by_cases c4 : t252 < 0
 ·rw [if_pos c4] at H
  have c4b0 : decide (t252 < 0) = true := decide_eq_true c4
  clear c4
  clear H
  go_enter Try.func11, Try.ntmps11
  go_wp2_with (first | ((with_reducible refine gate_callee (f := 13) rfl ?_); refine goesL_ (some 13) rfl rfl Try.func13 (by kernel_rfl) rfl #[.slice A0 l0.length c0, .int .i64 1048576] rfl (by (try simp only [List.map_toArray, List.map_cons, List.map_nil]); first | done | rfl | (simp only [List.length_drop, List.length_take]; rfl)) ?_; (with_reducible refine (laws_szTankS.calls _ _ l0 1048576 t252 _ ?side1 ?side2 A3.out).mono ?_); (case side1 => exact xd (HR0.out)); (case side2 => exact HC0.out); rintro e w' ⟨rfl, ⟨nd, rfl⟩⟩; refine ⟨_, rfl, ?_⟩))
  go_ret
  exact ⟨by first | rfl | (simp [errW_none, errW_some] <;> rfl) | (simp [*, errW_none, errW_some] <;> rfl), by repeat (first | (with_reducible first | exact HB.out | apply below_alloc | apply pw_below_drewN | apply below_drew1) | exact HB.out)⟩
 ·rw [if_neg c4] at H
  have c4b0 : decide (t252 < 0) = false := decide_eq_false c4
  clear c4
  replace H := Option.bind_eq_some_iff.mp H
  obtain ⟨t253, A50, H⟩ := H
  replace H : ((spec_FlowInto.f k t253 a1).bind fun bt256 => ((laws_toTankS.f k l0).bind fun t260 => ((impl_FlowInto.f k t260 a1).bind fun bt263 => ((laws_eqRatio.f bt263.1 bt263.2.1 bt256.1 bt256.2.1).bind fun t267 => (if t267 = true then (laws_FnExactFlowInto.j0 k l0 t260 (bt263.2.2 != bt256.2.2)) else (laws_FnExactFlowInto.j0 k l0 t260 true)))))) = some true := H
  have A5 := Aside0.mk A50
  clear A50
  replace H := Option.bind_eq_some_iff.mp H
  obtain ⟨⟨t256, t257, t258⟩, A60, H⟩ := H
  replace H : ((laws_toTankS.f k l0).bind fun t260 => ((impl_FlowInto.f k t260 a1).bind fun bt263 => ((laws_eqRatio.f bt263.1 bt263.2.1 t256 t257).bind fun t267 => (if t267 = true then (laws_FnExactFlowInto.j0 k l0 t260 (bt263.2.2 != t258)) else (laws_FnExactFlowInto.j0 k l0 t260 true))))) = some true := H
  have A6 := Aside0.mk A60
  clear A60
  replace H := Option.bind_eq_some_iff.mp H
  obtain ⟨t260, A70, H⟩ := H
  replace H : ((impl_FlowInto.f k t260 a1).bind fun bt263 => ((laws_eqRatio.f bt263.1 bt263.2.1 t256 t257).bind fun t267 => (if t267 = true then (laws_FnExactFlowInto.j0 k l0 t260 (bt263.2.2 != t258)) else (laws_FnExactFlowInto.j0 k l0 t260 true)))) = some true := H
  have A7 := Aside0.mk A70
  clear A70
  replace H := Option.bind_eq_some_iff.mp H
  obtain ⟨⟨t263, t264, t265⟩, A80, H⟩ := H
  replace H : ((laws_eqRatio.f t263 t264 t256 t257).bind fun t267 => (if t267 = true then (laws_FnExactFlowInto.j0 k l0 t260 (t265 != t258)) else (laws_FnExactFlowInto.j0 k l0 t260 true))) = some true := H
  have A8 := Aside0.mk A80
  clear A80
  have HC9 := Aside0.mk H
  clear H
  go_enter Try.func11, Try.ntmps11
  go_upto_region 8 with (first | ((with_reducible refine gate_callee (f := 13) rfl ?_); refine goesL_ (some 13) rfl rfl Try.func13 (by kernel_rfl) rfl #[.slice A0 l0.length c0, .int .i64 1048576] rfl (by (try simp only [List.map_toArray, List.map_cons, List.map_nil]); first | done | rfl | (simp only [List.length_drop, List.length_take]; rfl)) ?_; (with_reducible refine (laws_szTankS.calls _ _ l0 1048576 t252 _ ?side1 ?side2 A3.out).mono ?_); (case side1 => exact xd (HR0.out)); (case side2 => exact HC0.out); rintro e w' ⟨rfl, ⟨nd, rfl⟩⟩; refine ⟨_, rfl, ?_⟩) | ((with_reducible refine gate_callee (f := 15) rfl ?_); refine goesL_ (some 18) rfl rfl Try.func15 (by kernel_rfl) rfl #[.slice A0 l0.length c0] rfl (by (try simp only [List.map_toArray, List.map_cons, List.map_nil]); first | done | rfl | (simp only [List.length_drop, List.length_take]; rfl)) ?_; (with_reducible refine (laws_toTankS.calls k _ _ l0 t253 _ ?side1 ?side2 A5.out).mono ?_); (case side1 => exact xd (HR0.out)); (case side2 => exact HC0.out); rintro e w10 ⟨v254, rfl, ho0, hb⟩; refine ⟨_, rfl, ?_⟩; have HO255 := Aside0.mk (Kd.R_lower ho0 (below_size (xs HB.out))); replace HB := xp HB hb; (try clear hb); (try clear hb2); (try clear hk); (try clear hi); (try clear ho0); obtain ⟨Ao11, co11, eo11⟩ := Kd.R_slice HO255.out; subst eo11) | ((with_reducible refine gate_callee (f := 46) rfl ?_); refine goesL_ (some 20) rfl rfl Try.func46 (by kernel_rfl) rfl #[.slice Ao11 t253.length co11, .int .i64 a1] rfl (by (try simp only [List.map_toArray, List.map_cons, List.map_nil]); first | done | rfl | (simp only [List.length_drop, List.length_take]; rfl)) ?_; (with_reducible refine (spec_FlowInto.calls k _ _ t253 a1 t256 t257 t258 _ ?side1 ?side2 A6.out).mono ?_); (case side1 => exact xd ((Kd.R_reads' HO255.out).2.2)); (case side2 => exact (Kd.R_reads' HO255.out).2.1); rintro e w12 ⟨rfl, hb⟩; refine ⟨_, rfl, ?_⟩; replace HO255 := xq HO255 hb; replace HB := xp HB hb; (try clear hb); (try clear hb2); (try clear hk); (try clear hi)) | ((with_reducible refine gate_dst (N := 6) rfl ?_); refine box_event ?hg (N := 6) ?hd (cs := #[.int .i64 0, .int .i64 0]) (t := 44) ?hr ?_; (case hd => rfl); (case hg => rfl); (case hr => first | (go_simp; done) | (go_simp; rfl)); intro gb259 hg w13 hbox hb; replace HO255 := xq HO255 hb; have BK259 := Aside0.mk (hbox); have GW259 := xg HB hg; have GE259 := xg HB hg; replace HB := xp HB hb; clear hb hbox hg; have hcz14_0 : w13.cell? ⟨gb259, 0, none⟩ = some (.int .i64 0) := (blk_cell BK259.out 0).trans rfl; have hcz14_1 : w13.cell? ⟨gb259, 1, none⟩ = some (.int .i64 0) := (blk_cell BK259.out 1).trans rfl; have hfz14_0 := blk_frozen BK259.out 0; have hfz14_1 := blk_frozen BK259.out 1) | ((with_reducible refine gate_callee (f := 15) rfl ?_); refine goesL_ (some 24) rfl rfl Try.func15 (by kernel_rfl) rfl #[.slice A0 l0.length c0] rfl (by (try simp only [List.map_toArray, List.map_cons, List.map_nil]); first | done | rfl | (simp only [List.length_drop, List.length_take]; rfl)) ?_; (with_reducible refine (laws_toTankS.calls k _ _ l0 t260 _ ?side1 ?side2 A7.out).mono ?_); (case side1 => exact Kd.C_below HR0.out (xs HB.out)); (case side2 => exact HC0.out); rintro e w15 ⟨v261, rfl, ho0, hb⟩; refine ⟨_, rfl, ?_⟩; have HO262 := Aside0.mk (Kd.R_lower (Kd.R_new' ho0 (Kd.R_lt (by (with_reducible repeat (first | apply Kd.R_alloc | apply Kd.R_drewN | apply Kd.R_drew)); exact (Kd.R_mono (Kd.R_far (p := ⟨gb259, 1, none⟩) (Kd.R_far (p := ⟨gb259, 0, none⟩) (Kd.R_types HO255.out BK259.out (by decide)) (fun _ hk => hk.2) (.int .i64 t256)) (fun _ hk => hk.2) (.int .i64 t257)) (fun _ h_ => h_.1))))) (below_size (xs HB.out))); replace HO255 := Aside0.mk (Kd.R_elder' (by (with_reducible repeat (first | apply Kd.R_alloc | apply Kd.R_drewN | apply Kd.R_drew)); exact (Kd.R_mono (Kd.R_far (p := ⟨gb259, 1, none⟩) (Kd.R_far (p := ⟨gb259, 0, none⟩) (Kd.R_types HO255.out BK259.out (by decide)) (fun _ hk => hk.2) (.int .i64 t256)) (fun _ hk => hk.2) (.int .i64 t257)) (fun _ h_ => h_.1))) (Kd.R_base ho0) hb); replace BK259 := Aside0.mk (blk_below (g := gb259) (o := .cells #[.int .i64 t256, .int .i64 t257] 44 (0, 0)) (by (with_reducible repeat (first | refine blk_drewN ?_ _ | refine blk_drew ?_ | refine blk_alloc ?_ _)); refine blk_put (cs := #[.int .i64 t256, .int .i64 0]) ?_ 1 _ rfl; (with_reducible repeat (first | refine blk_drewN ?_ _ | refine blk_drew ?_ | refine blk_alloc ?_ _)); refine blk_put (cs := #[.int .i64 0, .int .i64 0]) ?_ 0 _ rfl; (with_reducible repeat (first | refine blk_drewN ?_ _ | refine blk_drew ?_ | refine blk_alloc ?_ _)); exact BK259.out) hb); replace HB := xp HB hb; (try clear hb); (try clear hb2); (try clear hk); (try clear hi); (try clear ho0); obtain ⟨Ao16, co16, eo16⟩ := Kd.R_slice HO262.out; subst eo16) | ((with_reducible refine gate_callee (f := 47) rfl ?_); refine goesL_ (some 28) rfl rfl Try.func47 (by kernel_rfl) rfl #[.slice Ao16 t260.length co16, .int .i64 a1] rfl (by (try simp only [List.map_toArray, List.map_cons, List.map_nil]); first | done | rfl | (simp only [List.length_drop, List.length_take]; rfl)) ?_; (with_reducible refine (impl_FlowInto.calls k _ _ t260 a1 t263 t264 t265 _ ?side1 ?side2 A8.out).mono ?_); (case side1 => exact xd ((Kd.R_reads' HO262.out).2.2)); (case side2 => exact (Kd.R_reads' HO262.out).2.1); rintro e w17 ⟨rfl, hb⟩; refine ⟨_, rfl, ?_⟩; replace HO255 := xq HO255 hb; replace HO262 := xq HO262 hb; replace BK259 := xk BK259 hb; replace HB := xp HB hb; (try clear hb); (try clear hb2); (try clear hk); (try clear hi)) | ((with_reducible refine gate_dst (N := 9) rfl ?_); refine box_event ?hg (N := 9) ?hd (cs := #[.int .i64 0, .int .i64 0]) (t := 44) ?hr ?_; (case hd => rfl); (case hg => rfl); (case hr => first | (go_simp; done) | (go_simp; rfl)); intro gb266 hg w18 hbox hb; replace HO255 := xq HO255 hb; replace HO262 := xq HO262 hb; have BK266 := Aside0.mk (hbox); have GW266 := xg HB hg; have GE266 := xg HB hg; replace HB := xp HB hb; have NB259_266 := xl BK259 hg; have NB266_259 := xh BK259 hg; replace BK259 := xk BK259 hb; clear hb hbox hg; have hnb19 := NB266_259.out; have hnc19 := NB259_266.out; have hcz20_0 : w18.cell? ⟨gb266, 0, none⟩ = some (.int .i64 0) := (blk_cell BK266.out 0).trans rfl; have hcz20_1 : w18.cell? ⟨gb266, 1, none⟩ = some (.int .i64 0) := (blk_cell BK266.out 1).trans rfl; have hfz20_0 := blk_frozen BK266.out 0; have hfz20_1 := blk_frozen BK266.out 1))
  (try simp only [Act.put, List.setIfInBounds_toArray, List.set_cons_zero, List.set_cons_succ])
  go_cut [39] (fun v39 wc => ∃ (kq : Nat) (x39_8 : Bool), v39 = .bool x39_8 ∧ Aside0 (laws_FnExactFlowInto.j0 kq l0 t260 x39_8 = some true) ∧ Aside0 (kq ≤ k) ∧ Aside0 (Kd.R k63 63 wc w.heap.size (fun _ => True) (.slice Ao16 t260.length co16) t260) ∧ Aside0 (wc.heap[gb259]? = some (.cells #[.int .i64 t256, .int .i64 t257] 44 (0, 0))) ∧ Aside0 (wc.heap[gb266]? = some (.cells #[.int .i64 t263, .int .i64 t264] 44 (0, 0))) ∧ Aside0 (Below w.heap.size w wc))
  case first =>
   have H := HC9.out
   clear HC9
   replace H := Option.bind_eq_some_iff.mp H
   obtain ⟨t267, A210, H⟩ := H
   replace H : (if t267 = true then (laws_FnExactFlowInto.j0 k l0 t260 (t265 != t258)) else (laws_FnExactFlowInto.j0 k l0 t260 true)) = some true := H
   have A21 := Aside0.mk A210
   clear A210
   by_cases c22 : t267 = true
   ·subst c22
    have H1 : (laws_FnExactFlowInto.j0 k l0 t260 (t265 != t258)) = some true := by first | (rw [if_pos rfl] at H; exact H) | rfl
    clear H
    have H := H1
    clear H1
    have H' := Aside0.mk H
    clear H
    have hnb23 := NB266_259.out
    have hnc23 := NB259_266.out
    have hcz24_0 : w18.cell? ⟨gb266, 0, none⟩ = some (.int .i64 0) := (blk_cell BK266.out 0).trans rfl
    have hcz24_1 : w18.cell? ⟨gb266, 1, none⟩ = some (.int .i64 0) := (blk_cell BK266.out 1).trans rfl
    have hfz24_0 := blk_frozen BK266.out 0
    have hfz24_1 := blk_frozen BK266.out 1
    have hcz25_0 : w18.cell? ⟨gb259, 0, none⟩ = some (.int .i64 t256) := (blk_cell BK259.out 0).trans rfl
    have hcz25_1 : w18.cell? ⟨gb259, 1, none⟩ = some (.int .i64 t257) := (blk_cell BK259.out 1).trans rfl
    have hfz25_0 := blk_frozen BK259.out 0
    have hfz25_1 := blk_frozen BK259.out 1
    go_wp2_with (first | ((with_reducible refine gate_callee (f := 35) rfl ?_); refine goesL_ (some 33) rfl rfl Try.func35 (by kernel_rfl) rfl #[.agg #[.int .i64 t263, .int .i64 t264], .agg #[.int .i64 t256, .int .i64 t257]] rfl (by (try simp only [List.map_toArray, List.map_cons, List.map_nil]); first | done | rfl | (simp only [List.length_drop, List.length_take]; rfl)) ?_; (with_reducible refine (laws_eqRatio.calls t263 t264 t256 t257 true _ A21.out).mono ?_); rintro e w26 ⟨rfl, hb⟩; refine ⟨_, rfl, ?_⟩; replace HO255 := Aside0.mk (Kd.R_below (by (with_reducible repeat (first | apply Kd.R_alloc | apply Kd.R_drewN | apply Kd.R_drew)); exact (Kd.R_mono (Kd.R_far (p := ⟨gb266, 1, none⟩) (Kd.R_far (p := ⟨gb266, 0, none⟩) (Kd.R_types HO255.out BK266.out (by decide)) (fun _ hk => hk.2) (.int .i64 t263)) (fun _ hk => hk.2) (.int .i64 t264)) (fun _ h_ => h_.1))) hb); replace HO262 := Aside0.mk (Kd.R_below (by (with_reducible repeat (first | apply Kd.R_alloc | apply Kd.R_drewN | apply Kd.R_drew)); exact (Kd.R_mono (Kd.R_far (p := ⟨gb266, 1, none⟩) (Kd.R_far (p := ⟨gb266, 0, none⟩) (Kd.R_types HO262.out BK266.out (by decide)) (fun _ hk => hk.2) (.int .i64 t263)) (fun _ hk => hk.2) (.int .i64 t264)) (fun _ h_ => h_.1))) hb); replace BK259 := Aside0.mk (blk_below (g := gb259) (o := .cells #[.int .i64 t256, .int .i64 t257] 44 (0, 0)) (xff NB259_266.out NB259_266.out BK259.out) hb); replace BK266 := Aside0.mk (blk_below (g := gb266) (o := .cells #[.int .i64 t263, .int .i64 t264] 44 (0, 0)) (by (with_reducible repeat (first | refine blk_drewN ?_ _ | refine blk_drew ?_ | refine blk_alloc ?_ _)); refine blk_put (cs := #[.int .i64 t263, .int .i64 0]) ?_ 1 _ rfl; (with_reducible repeat (first | refine blk_drewN ?_ _ | refine blk_drew ?_ | refine blk_alloc ?_ _)); refine blk_put (cs := #[.int .i64 0, .int .i64 0]) ?_ 0 _ rfl; (with_reducible repeat (first | refine blk_drewN ?_ _ | refine blk_drew ?_ | refine blk_alloc ?_ _)); exact BK266.out) hb); replace HB := xp HB hb; (try clear hb); (try clear hb2); (try clear hk); (try clear hi)))
    go_meet
    case rel => exact ⟨_, ((t265 != t258)), (by first | rfl | (simp; done) | (simp [*]; done)), H', ⟨by first | omega | exact Nat.le_refl _⟩, ⟨xm HO262 (fun _ hk => trivial)⟩, ⟨xb BK259.out⟩, ⟨xb BK266.out⟩, ⟨xs HB.out⟩⟩
   ·replace c22 := Bool.eq_false_iff.mpr c22
    subst c22
    have H1 : (laws_FnExactFlowInto.j0 k l0 t260 true) = some true := by first | (rw [if_neg (show ¬ (false = true) by decide)] at H; exact H) | rfl
    clear H
    have H := H1
    clear H1
    have H' := Aside0.mk H
    clear H
    have hnb27 := NB266_259.out
    have hnc27 := NB259_266.out
    have hcz28_0 : w18.cell? ⟨gb266, 0, none⟩ = some (.int .i64 0) := (blk_cell BK266.out 0).trans rfl
    have hcz28_1 : w18.cell? ⟨gb266, 1, none⟩ = some (.int .i64 0) := (blk_cell BK266.out 1).trans rfl
    have hfz28_0 := blk_frozen BK266.out 0
    have hfz28_1 := blk_frozen BK266.out 1
    have hcz29_0 : w18.cell? ⟨gb259, 0, none⟩ = some (.int .i64 t256) := (blk_cell BK259.out 0).trans rfl
    have hcz29_1 : w18.cell? ⟨gb259, 1, none⟩ = some (.int .i64 t257) := (blk_cell BK259.out 1).trans rfl
    have hfz29_0 := blk_frozen BK259.out 0
    have hfz29_1 := blk_frozen BK259.out 1
    go_wp2_with (first | ((with_reducible refine gate_callee (f := 35) rfl ?_); refine goesL_ (some 33) rfl rfl Try.func35 (by kernel_rfl) rfl #[.agg #[.int .i64 t263, .int .i64 t264], .agg #[.int .i64 t256, .int .i64 t257]] rfl (by (try simp only [List.map_toArray, List.map_cons, List.map_nil]); first | done | rfl | (simp only [List.length_drop, List.length_take]; rfl)) ?_; (with_reducible refine (laws_eqRatio.calls t263 t264 t256 t257 false _ A21.out).mono ?_); rintro e w30 ⟨rfl, hb⟩; refine ⟨_, rfl, ?_⟩; replace HO255 := Aside0.mk (Kd.R_below (by (with_reducible repeat (first | apply Kd.R_alloc | apply Kd.R_drewN | apply Kd.R_drew)); exact (Kd.R_mono (Kd.R_far (p := ⟨gb266, 1, none⟩) (Kd.R_far (p := ⟨gb266, 0, none⟩) (Kd.R_types HO255.out BK266.out (by decide)) (fun _ hk => hk.2) (.int .i64 t263)) (fun _ hk => hk.2) (.int .i64 t264)) (fun _ h_ => h_.1))) hb); replace HO262 := Aside0.mk (Kd.R_below (by (with_reducible repeat (first | apply Kd.R_alloc | apply Kd.R_drewN | apply Kd.R_drew)); exact (Kd.R_mono (Kd.R_far (p := ⟨gb266, 1, none⟩) (Kd.R_far (p := ⟨gb266, 0, none⟩) (Kd.R_types HO262.out BK266.out (by decide)) (fun _ hk => hk.2) (.int .i64 t263)) (fun _ hk => hk.2) (.int .i64 t264)) (fun _ h_ => h_.1))) hb); replace BK259 := Aside0.mk (blk_below (g := gb259) (o := .cells #[.int .i64 t256, .int .i64 t257] 44 (0, 0)) (xff NB259_266.out NB259_266.out BK259.out) hb); replace BK266 := Aside0.mk (blk_below (g := gb266) (o := .cells #[.int .i64 t263, .int .i64 t264] 44 (0, 0)) (by (with_reducible repeat (first | refine blk_drewN ?_ _ | refine blk_drew ?_ | refine blk_alloc ?_ _)); refine blk_put (cs := #[.int .i64 t263, .int .i64 0]) ?_ 1 _ rfl; (with_reducible repeat (first | refine blk_drewN ?_ _ | refine blk_drew ?_ | refine blk_alloc ?_ _)); refine blk_put (cs := #[.int .i64 0, .int .i64 0]) ?_ 0 _ rfl; (with_reducible repeat (first | refine blk_drewN ?_ _ | refine blk_drew ?_ | refine blk_alloc ?_ _)); exact BK266.out) hb); replace HB := xp HB hb; (try clear hb); (try clear hb2); (try clear hk); (try clear hi)))
    go_meet
    case rel => exact ⟨_, (true), (by first | rfl | (simp; done) | (simp [*]; done)), H', ⟨by first | omega | exact Nat.le_refl _⟩, ⟨xm HO262 (fun _ hk => trivial)⟩, ⟨xb BK259.out⟩, ⟨xb BK266.out⟩, ⟨xs HB.out⟩⟩
  case rest =>
   clear HC9
   try clear c1
   try clear c2
   try clear p2
   try clear c3
   try clear c4
   try clear c4b0
   try clear c11
   try clear c13
   try clear c15
   try clear c19
   try clear c22
   try clear c23
   try clear c27
   try clear hcz14_0
   try clear hcz14_1
   try clear hcz20_0
   try clear hcz20_1
   try clear hcz24_0
   try clear hcz24_1
   try clear hcz25_0
   try clear hcz25_1
   try clear hcz28_0
   try clear hcz28_1
   try clear hcz29_0
   try clear hcz29_1
   try clear hfz14_0
   try clear hfz14_1
   try clear hfz20_0
   try clear hfz20_1
   try clear hfz24_0
   try clear hfz24_1
   try clear hfz25_0
   try clear hfz25_1
   try clear hfz28_0
   try clear hfz28_1
   try clear hfz29_0
   try clear hfz29_1
   obtain ⟨kq, x39_8, rfl, HA, HJ8, HO_8, BK259, BK266, HB⟩ := hcut
   cases kq with
   | zero => exact absurd HA.out (by simp [laws_FnExactFlowInto.j0])
   | succ kj8 =>
    have H := HA.out
    clear HA
    simp only [laws_FnExactFlowInto.j0] at H
    by_cases c31 : x39_8 = true
    ·subst c31
     have H1 : (some false) = some true := by first | (rw [if_pos rfl] at H; exact H) | rfl
     clear H
     have H := H1
     clear H1
     exact absurd H (by simp)
    ·replace c31 := Bool.eq_false_iff.mpr c31
     subst c31
     have H1 : ((laws_toTankS.f kj8 l0).bind fun t268 => ((laws_eqTankS.f kj8 t260 t268).bind fun t271 => (if t271 = true then (some true) else (some false)))) = some true := by first | (rw [if_neg (show ¬ (false = true) by decide)] at H; exact H) | rfl
     clear H
     have H := H1
     clear H1
     replace H := Option.bind_eq_some_iff.mp H
     obtain ⟨t268, A320, H⟩ := H
     replace H : ((laws_eqTankS.f kj8 t260 t268).bind fun t271 => (if t271 = true then (some true) else (some false))) = some true := H
     have A32 := Aside0.mk A320
     clear A320
     replace H := Option.bind_eq_some_iff.mp H
     obtain ⟨t271, A330, H⟩ := H
     replace H : (if t271 = true then (some true) else (some false)) = some true := H
     have A33 := Aside0.mk A330
     clear A330
     by_cases c34 : t271 = true
     ·subst c34
      have H1 : (some true) = some true := by first | (rw [if_pos rfl] at H; exact H) | rfl
      clear H
      have H := H1
      clear H1
      clear H
      go_wp2_with (first | ((with_reducible refine gate_callee (f := 15) rfl ?_); refine goesL_ (some 42) rfl rfl Try.func15 (by kernel_rfl) rfl #[.slice A0 l0.length c0] rfl (by (try simp only [List.map_toArray, List.map_cons, List.map_nil]); first | done | rfl | (simp only [List.length_drop, List.length_take]; rfl)) ?_; (with_reducible refine (laws_toTankS.calls kj8 _ _ l0 t268 _ ?side1 ?side2 A32.out).mono ?_); (case side1 => exact xd ((Kd.C_below HR0.out HB.out))); (case side2 => exact HC0.out); rintro e w35 ⟨v269, rfl, ho0, hb⟩; refine ⟨_, rfl, ?_⟩; have HO270 := Aside0.mk (Kd.R_lower (Kd.R_new' ho0 (Kd.R_lt (xr HO_8.out))) (below_size (xs HB.out))); replace HO_8 := Aside0.mk (Kd.R_elder' (xr HO_8.out) (Kd.R_base ho0) hb); replace BK259 := xk BK259 hb; replace BK266 := xk BK266 hb; replace HB := xp HB hb; (try clear hb); (try clear hb2); (try clear hk); (try clear hi); (try clear ho0); obtain ⟨Ao36, co36, eo36⟩ := Kd.R_slice HO270.out; subst eo36) | ((with_reducible refine gate_callee (f := 18) rfl ?_); refine goesL_ (some 43) rfl rfl Try.func18 (by kernel_rfl) rfl #[.slice Ao16 t260.length co16, .slice Ao36 t268.length co36] rfl (by (try simp only [List.map_toArray, List.map_cons, List.map_nil]); first | done | rfl | (simp only [List.length_drop, List.length_take]; rfl)) ?_; (with_reducible refine (laws_eqTankS.calls kj8 _ _ t260 _ _ t268 true _ ?side1 ?side2 ?side3 ?side4 A33.out).mono ?_); (case side1 => exact xd ((Kd.R_reads' HO_8.out).2.2)); (case side2 => exact (Kd.R_reads' HO_8.out).2.1); (case side3 => exact xd ((Kd.R_reads' HO270.out).2.2)); (case side4 => exact (Kd.R_reads' HO270.out).2.1); rintro e w37 ⟨rfl, hb⟩; refine ⟨_, rfl, ?_⟩; replace HO_8 := xq HO_8 hb; replace HO270 := xq HO270 hb; replace BK259 := xk BK259 hb; replace BK266 := xk BK266 hb; replace HB := xp HB hb; (try clear hb); (try clear hb2); (try clear hk); (try clear hi)))
      go_ret
      exact ⟨by first | rfl | (simp [errW_none, errW_some] <;> rfl) | (simp [*, errW_none, errW_some] <;> rfl), by repeat (first | (with_reducible first | exact HB.out | apply below_alloc | apply pw_below_drewN | apply below_drew1 | refine below_set ?_ GE259.out | refine below_set ?_ GE266.out) | exact HB.out)⟩
     ·replace c34 := Bool.eq_false_iff.mpr c34
      subst c34
      have H1 : (some false) = some true := by first | (rw [if_neg (show ¬ (false = true) by decide)] at H; exact H) | rfl
      clear H
      have H := H1
      clear H1
      exact absurd H (by simp)

end Go.Proofs.Ytedkbaadbnpkoaa.PFnExactFlowInto

/- Lean functions of the Go functions that the law FnExactWetTanks reaches, and the proofs that the calls come to what they say (made by program). -/
import Derived.Test.YtedkbaadbnpkoaaAb
import Derived.Test.YtedkbaadbnpkoaaPFnExactWetTanksx0
import Derived.Test.YtedkbaadbnpkoaaPFnExactWetTanksx1
import Derived.Test.YtedkbaadbnpkoaaPFnExactWetTanksx2
import Derived.Test.YtedkbaadbnpkoaaPFnExactWetTanksx4
import Derived.Test.YtedkbaadbnpkoaaPFnExactWetTanksx7
namespace Go.Proofs.Ytedkbaadbnpkoaa.PFnExactWetTanks
open Go.RowKit Go.Proofs.YtedkbaadbnpkoaaW.PrintWords Go.Proofs.YtedkbaadbnpkoaaW.PrintLast Go.Proofs.YtedkbaadbnpkoaaW.PrintMore Go.Proofs.Ytedkbaadbnpkoaa.Ab
attribute [local go_sem] max2_int min2_int max_two min_two max_three min_three max_four min_four   -- for this text's walks alone
set_option linter.unusedVariables false
set_option linter.unusedSimpArgs false

/-! ### impl_WetTanks: function 49 -/
def impl_WetTanks.l0 : Nat → Bool → List Int → List (S44) → Int → Int → Option (List Int × Bool)
  | 0, _, _, _, _, _ => none
  | k + 1, x5, x6, x15, x16, x17 => if x17 < x16 then (if 0 ≤ x17 then (if x17 < (x15.length : Int) then (if ((rd_T44 x15 x17).f0) > 0 then (if x6.length < 17592186044416 then (impl_WetTanks.l0 k x5 (x6 ++ [x17]) x15 x16 (wrap64 (x17 + 1))) else (none)) else (impl_WetTanks.l0 k x5 x6 x15 x16 (wrap64 (x17 + 1)))) else (none)) else (none)) else (some (x6, x5))
def impl_WetTanks.f (k : Nat) (l0 : List (S63)) : Option (List Int × Bool) := (impl_WaterAfter.f k l0).bind fun bt260 => (impl_WetTanks.l0 k bt260.2 (([] : List Int)) bt260.1 (bt260.1.length : Int) 0)
theorem impl_WetTanks.mono_l : ∀ k, (∀ y0 y1 y2 y3 y4, LeO (impl_WetTanks.l0 k y0 y1 y2 y3 y4) (impl_WetTanks.l0 (k + 1) y0 y1 y2 y3 y4))
 | 0 => fun _ _ _ _ _ r h => by simp [impl_WetTanks.l0] at h
 | k + 1 => by
  have ih0 := impl_WetTanks.mono_l k
  ·intro y0 y1 y2 y3 y4
   unfold impl_WetTanks.l0
   repeat' first
   | (with_reducible exact ih0 _ _ _ _ _)
   | (with_reducible exact impl_WaterAfter.mono _ _)
   | (with_reducible exact LeO.refl _)
   | (with_reducible exact LeO.none _)
   | (with_reducible refine LeO.ite ?_ ?_)
   | (with_reducible refine LeO.bind ?_ (fun _ => ?_))
   | exact ih0 _ _ _ _ _
   | exact impl_WaterAfter.mono _ _
   | exact LeO.none _
   | refine LeO.ite ?_ ?_
   | refine LeO.bind ?_ (fun _ => ?_)
theorem impl_WetTanks.mono : ∀ a0 k, LeO (impl_WetTanks.f k a0) (impl_WetTanks.f (k + 1) a0) := by
 intro a0 k
 have ih0 := impl_WetTanks.mono_l k
 unfold impl_WetTanks.f
 repeat' first
   | (with_reducible exact ih0 _ _ _ _ _)
   | (with_reducible exact impl_WaterAfter.mono _ _)
   | (with_reducible exact LeO.refl _)
   | (with_reducible exact LeO.none _)
   | (with_reducible refine LeO.ite ?_ ?_)
   | (with_reducible refine LeO.bind ?_ (fun _ => ?_))
   | exact ih0 _ _ _ _ _
   | exact impl_WaterAfter.mono _ _
   | exact LeO.none _
   | refine LeO.ite ?_ ?_
   | refine LeO.bind ?_ (fun _ => ?_)
set_option maxHeartbeats 8000000 in
set_option maxRecDepth 100000 in
theorem impl_WetTanks.calls (k : Nat) (A0 : Option Addr) (c0 : Nat) (l0 : List (S63)) (r1 : List Int) (r2 : Bool) (w : World) (hr0 : Kd.C k63 w A0 l0.length l0) (hc0 : l0.length ≤ c0) (h : impl_WetTanks.f k l0 = some (r1, r2)) :
  Calls Try.prog 49 #[.slice A0 l0.length c0] w fun e w' => ∃ v0_ : Value, e = .returned (.tuple #[v0_, .bool r2]) ∧ Kd.R (Kd.int .i64) 3 w' w.heap.size (fun _ => True) v0_ r1 ∧ Below w.heap.size w w' := by
 have hu44 := Try.underlying44
 have HR0 := Aside0.mk hr0
 have HC0 := Aside0.mk hc0
 clear hr0 hc0
 have HB := Aside0.mk (Below.refl w.heap.size w)
 have H : ((impl_WaterAfter.f k l0).bind fun bt260 => (impl_WetTanks.l0 k bt260.2 (([] : List Int)) bt260.1 (bt260.1.length : Int) 0)) = some (r1, r2) := h
 clear h
 replace H := Option.bind_eq_some_iff.mp H
 obtain ⟨⟨t260, t261⟩, A20, H⟩ := H
 replace H : (impl_WetTanks.l0 k t261 (([] : List Int)) t260 (t260.length : Int) 0) = some (r1, r2) := H
 have A2 := Aside0.mk A20
 clear A20
 obtain ⟨y264, hy264⟩ : ∃ y_ : List Int, y_ = (([] : List Int)) := ⟨_, rfl⟩
 replace H : (impl_WetTanks.l0 k t261 y264 t260 (t260.length : Int) 0) = some (r1, r2) := by first | (rw [hy264]; with_reducible exact H) | (have H2_ := (Option.bind_some _ _).symm.trans H; rw [hy264]; with_reducible exact H2_) | (have H2_ := (Option.bind_some _ _).symm.trans H; with_reducible exact H2_) | with_reducible exact H | (rw [hy264]; exact H) | exact H
 have Ny264 := Aside0.mk hy264
 clear hy264
 have H' := Aside0.mk H
 clear H
 go_enter Try.func49, Try.ntmps49
 go_wp2_with (first | ((with_reducible refine gate_callee (f := 16) rfl ?_); refine goesL_ (some 11) rfl rfl Try.func16 (by kernel_rfl) rfl #[.slice A0 l0.length c0] rfl (by (try simp only [List.map_toArray, List.map_cons, List.map_nil]); first | done | rfl | (simp only [List.length_drop, List.length_take]; rfl)) ?_; (with_reducible refine (impl_WaterAfter.calls k _ _ l0 t260 t261 _ ?side1 ?side2 A2.out).mono ?_); (case side1 => exact xd (HR0.out)); (case side2 => exact HC0.out); rintro e w3 ⟨v262, rfl, ho0, hb⟩; refine ⟨_, rfl, ?_⟩; have HO263 := Aside0.mk (Kd.R_lower ho0 (below_size (xs HB.out))); replace HB := xp HB hb; (try clear hb); (try clear hb2); (try clear hk); (try clear hi); (try clear ho0)) | ((with_reducible refine gate_dst (N := 14) rfl ?_); refine Kd.R_lit (Kd.int .i64) _ 3 ?hg (N := 14) ?hd (xs := ([] : List Int)) (inner := []) (ok := fun _ => True) (okp := fun _ => True) ?hr ?hp (fun _ hk => hk) trivial (Below.refl _ _) (Nat.le_refl _) (by simp) ?_; (case hd => rfl); (case hg => rfl); (case hr => first | (go_simp; done) | (go_simp; rfl)); (case hp => exact (Reps.none _ _)); intro v265 w4 ho5 hb hg_ hnew_; clear hg_ hnew_; (first | rw [← Ny264.out] at ho5 | (simp only [Int.reduceToNat] at ho5; rw [← Ny264.out] at ho5)); replace HO263 := xq HO263 hb; have HO266 := Aside0.mk (Kd.R_lower ho5 (below_size (xs HB.out))); replace HB := xp HB hb; clear hb ho5; obtain ⟨Ao6, co6, eo6⟩ := Kd.R_slice HO263.out; subst eo6))
 go_loopg [6, 17] k (fun kq v6 v17 w' => ∃ (x6_1 : List Int) (x17_1 : Int), v17 = .int .i64 x17_1 ∧ Aside0 (impl_WetTanks.l0 kq t261 x6_1 t260 (t260.length : Int) x17_1 = some (r1, r2)) ∧ Aside0 (kq ≤ k) ∧ Aside0 (Kd.R (Kd.int .i64) 3 w' w.heap.size (fun _ => True) v6 x6_1) ∧ Aside0 (Kd.R k44 44 w' w.heap.size (fun _ => True) (.slice Ao6 t260.length co6) t260) ∧ Aside0 (Below w.heap.size w w'))
 case atStart => exact ⟨(y264), (0), (by first | rfl | (simp; done) | (simp [*]; done)), H', ⟨Nat.le_refl _⟩, ⟨xr HO266.out⟩, ⟨xr HO263.out⟩, ⟨xs HB.out⟩⟩
 case round =>
  clear H'
  try clear c1
  try clear p2
  try clear c4
  obtain ⟨x6_1, x17_1, rfl, HA, HK1, HO_6, HO_15, HB⟩ := hrel
  cases gk with
  | zero => exact absurd HA.out (by simp [impl_WetTanks.l0])
  | succ k1 =>
   have H := HA.out
   clear HA
   simp only [impl_WetTanks.l0] at H
   by_cases c7 : x17_1 < (t260.length : Int)
   ·rw [if_pos c7] at H
    have c7b0 : decide (x17_1 < (t260.length : Int)) = true := decide_eq_true c7
    clear c7
    by_cases c8 : 0 ≤ x17_1
    ·rw [if_pos c8] at H
     have c8b0 : decide (0 ≤ x17_1) = true := decide_eq_true c8
     clear c8
     by_cases c9 : x17_1 < (t260.length : Int)
     ·rw [if_pos c9] at H
      have c9b0 : decide (x17_1 < (t260.length : Int)) = true := decide_eq_true c9
      clear c9
      by_cases c10 : ((rd_T44 t260 x17_1).f0) > 0
      ·rw [if_pos c10] at H
       have c10b0 : decide (0 < ((rd_T44 t260 x17_1).f0)) = true := decide_eq_true c10
       clear c10
       by_cases c11 : x6_1.length < 17592186044416
       ·rw [if_pos c11] at H
        have LMc11 := Aside0.mk c11
        clear c11
        obtain ⟨y269, hy269⟩ : ∃ y_ : List Int, y_ = (x6_1 ++ [x17_1]) := ⟨_, rfl⟩
        replace H : (impl_WetTanks.l0 k1 t261 y269 t260 (t260.length : Int) (wrap64 (x17_1 + 1))) = some (r1, r2) := by first | (rw [hy269]; with_reducible exact H) | (have H2_ := (Option.bind_some _ _).symm.trans H; rw [hy269]; with_reducible exact H2_) | (have H2_ := (Option.bind_some _ _).symm.trans H; with_reducible exact H2_) | with_reducible exact H | (rw [hy269]; exact H) | exact H
        have Ny269 := Aside0.mk hy269
        clear hy269
        have H' := Aside0.mk H
        clear H
        have p267 : 0 ≤ (x17_1 : Int) := of_decide_eq_true (by first | (with_reducible assumption) | assumption)
        have q267 : x17_1 < (t260.length : Int) := of_decide_eq_true (by first | (with_reducible assumption) | assumption)
        obtain ⟨ad267, e267, hx267_0, hx267_1⟩ := at_T44 (Kd.R_reads' HO_15.out).2.2 x17_1 p267 q267
        cases e267
        replace p267 := eq_true p267
        replace q267 := eq_true q267
        go_wp2_with (first | ((with_reducible refine gate_dst (N := 8) rfl ?_); refine box_event ?hg (N := 8) ?hd (cs := #[.int .i64 0, .int .i64 0]) (t := 44) ?hr ?_; (case hd => rfl); (case hg => rfl); (case hr => first | (go_simp; done) | (go_simp; rfl)); intro gb268 hg w12 hbox hb; replace HO_6 := xq HO_6 hb; replace HO_15 := Aside0.mk (Kd.R_below (Kd.R_elderB (xr HO_15.out) gb268 (Nat.le_of_eq hg.symm)) hb); have BK268 := Aside0.mk (hbox); have GW268 := xg HB hg; have GE268 := xg HB hg; replace HB := xp HB hb; clear hb hbox hg; have hcz13_0 : w12.cell? ⟨gb268, 0, none⟩ = some (.int .i64 0) := (blk_cell BK268.out 0).trans rfl; have hcz13_1 : w12.cell? ⟨gb268, 1, none⟩ = some (.int .i64 0) := (blk_cell BK268.out 1).trans rfl; have hfz13_0 := blk_frozen BK268.out 0; have hfz13_1 := blk_frozen BK268.out 1) | ((with_reducible refine gate_builtin (b := .append) (xs := #[.tmp 25, .tmp 27]) rfl ?_); at_builtin; refine Kd.R_append (Kd.int .i64) (w0 := w) w.heap.size rfl (.tmp 25) (.tmp 27) 52 3 (.int .i64 0) 8 rfl Try.underlying52 info3 rfl (by decide) (by omega) u6 x6_1 x17_1 [.int .i64 x17_1] (fun _ => True) (fun _ => False) rfl (by first | (go_simp; done) | (go_simp; rfl)) ?aP (fun _ hk => hk.elim) ?aF ?aO ?aB ?aS ?aL ?_; (case aP => exact rfl); (case aB => exact (xs HB.out)); (case aF => exact (fun _ _ => trivial)); (case aO => exact (by (with_reducible repeat (first | apply Kd.R_alloc | apply Kd.R_drewN | apply Kd.R_drew)); exact Kd.R_mono (Kd.R_far (p := ⟨gb268, 1, none⟩) (Kd.R_far (p := ⟨gb268, 0, none⟩) (Kd.R_types HO_6.out BK268.out (by decide)) (fun _ hk => hk.2) (.int .i64 ((rd_T44 t260 x17_1).f0))) (fun _ hk => hk.2) (.int .i64 ((rd_T44 t260 x17_1).f1))) (fun _ hk => trivial))); (case aS => exact (below_size (xs HB.out))); (case aL => have := LMc11.out; omega); intro v270 w14 ho hb hg hat; rw [← Ny269.out] at ho; replace HO_15 := Aside0.mk (Kd.R_over' (by (with_reducible repeat (first | apply Kd.R_alloc | apply Kd.R_drewN | apply Kd.R_drew)); exact (Kd.R_mono (Kd.R_far (p := ⟨gb268, 1, none⟩) (Kd.R_far (p := ⟨gb268, 0, none⟩) (Kd.R_mono HO_15.out (fun k_ hk => (⟨hk, hk.2⟩ : _ ∧ k_ ≠ gb268))) (fun _ hk => hk.2) (.int .i64 ((rd_T44 t260 x17_1).f0))) (fun _ hk => hk.2) (.int .i64 ((rd_T44 t260 x17_1).f1))) (fun _ h_ => h_.1))) (Kd.R_typed (by (with_reducible repeat (first | apply Kd.R_alloc | apply Kd.R_drewN | apply Kd.R_drew)); exact (Kd.R_mono (Kd.R_far (p := ⟨gb268, 1, none⟩) (Kd.R_far (p := ⟨gb268, 0, none⟩) (Kd.R_types HO_6.out BK268.out (by decide)) (fun _ hk => hk.2) (.int .i64 ((rd_T44 t260 x17_1).f0))) (fun _ hk => hk.2) (.int .i64 ((rd_T44 t260 x17_1).f1))) (fun _ h_ => h_.1)))) (by decide) hg); replace BK268 := Aside0.mk (blk_grown (g := gb268) (o := .cells #[.int .i64 ((rd_T44 t260 x17_1).f0), .int .i64 ((rd_T44 t260 x17_1).f1)] 44 (0, 0)) (by (with_reducible repeat (first | refine blk_drewN ?_ _ | refine blk_drew ?_ | refine blk_alloc ?_ _)); refine blk_put (cs := #[.int .i64 ((rd_T44 t260 x17_1).f0), .int .i64 0]) ?_ 1 _ rfl; (with_reducible repeat (first | refine blk_drewN ?_ _ | refine blk_drew ?_ | refine blk_alloc ?_ _)); refine blk_put (cs := #[.int .i64 0, .int .i64 0]) ?_ 0 _ rfl; (with_reducible repeat (first | refine blk_drewN ?_ _ | refine blk_drew ?_ | refine blk_alloc ?_ _)); exact BK268.out) hg (Kd.R_ne HO_6.out BK268.out (by decide))); replace HB := Aside0.mk (hb); have HO271 := Aside0.mk (ho); clear HO_6; clear ho hb hg hat))
        go_roundg k1
        case measure => have := HK1.out; omega
        case rel => exact ⟨(y269), (wrap64 (x17_1 + 1)), (by first | rfl | (simp; done) | (simp [*]; done)), H', ⟨by have := HK1.out; omega⟩, ⟨xr HO271.out⟩, ⟨xm HO_15 (fun _ hk => trivial)⟩, ⟨xs HB.out⟩⟩
       ·rw [if_neg c11] at H
        exact absurd H (by simp)
      ·rw [if_neg c10] at H
       have c10b0 : decide (0 < ((rd_T44 t260 x17_1).f0)) = false := decide_eq_false c10
       clear c10
       have H' := Aside0.mk H
       clear H
       have p267 : 0 ≤ (x17_1 : Int) := of_decide_eq_true (by first | (with_reducible assumption) | assumption)
       have q267 : x17_1 < (t260.length : Int) := of_decide_eq_true (by first | (with_reducible assumption) | assumption)
       obtain ⟨ad267, e267, hx267_0, hx267_1⟩ := at_T44 (Kd.R_reads' HO_15.out).2.2 x17_1 p267 q267
       cases e267
       replace p267 := eq_true p267
       replace q267 := eq_true q267
       go_wp2_with (first | ((with_reducible refine gate_dst (N := 8) rfl ?_); refine box_event ?hg (N := 8) ?hd (cs := #[.int .i64 0, .int .i64 0]) (t := 44) ?hr ?_; (case hd => rfl); (case hg => rfl); (case hr => first | (go_simp; done) | (go_simp; rfl)); intro gb268 hg w15 hbox hb; replace HO_6 := xq HO_6 hb; replace HO_15 := Aside0.mk (Kd.R_below (Kd.R_elderB (xr HO_15.out) gb268 (Nat.le_of_eq hg.symm)) hb); have BK268 := Aside0.mk (hbox); have GW268 := xg HB hg; have GE268 := xg HB hg; replace HB := xp HB hb; clear hb hbox hg; have hcz16_0 : w15.cell? ⟨gb268, 0, none⟩ = some (.int .i64 0) := (blk_cell BK268.out 0).trans rfl; have hcz16_1 : w15.cell? ⟨gb268, 1, none⟩ = some (.int .i64 0) := (blk_cell BK268.out 1).trans rfl; have hfz16_0 := blk_frozen BK268.out 0; have hfz16_1 := blk_frozen BK268.out 1))
       go_roundg k1
       case measure => have := HK1.out; omega
       case rel => exact ⟨(x6_1), (wrap64 (x17_1 + 1)), (by first | rfl | (simp; done) | (simp [*]; done)), H', ⟨by have := HK1.out; omega⟩, ⟨by (with_reducible repeat (first | apply Kd.R_alloc | apply Kd.R_drewN | apply Kd.R_drew)); exact Kd.R_mono (Kd.R_far (p := ⟨gb268, 1, none⟩) (Kd.R_far (p := ⟨gb268, 0, none⟩) (Kd.R_types HO_6.out BK268.out (by decide)) (fun _ hk => hk.2) (.int .i64 ((rd_T44 t260 x17_1).f0))) (fun _ hk => hk.2) (.int .i64 ((rd_T44 t260 x17_1).f1))) (fun _ hk => trivial)⟩, ⟨by (with_reducible repeat (first | apply Kd.R_alloc | apply Kd.R_drewN | apply Kd.R_drew)); exact Kd.R_mono (Kd.R_far (p := ⟨gb268, 1, none⟩) (Kd.R_far (p := ⟨gb268, 0, none⟩) (Kd.R_mono HO_15.out (fun k_ hk => (⟨hk, hk.2⟩ : _ ∧ k_ ≠ gb268))) (fun _ hk => hk.2) (.int .i64 ((rd_T44 t260 x17_1).f0))) (fun _ hk => hk.2) (.int .i64 ((rd_T44 t260 x17_1).f1))) (fun _ hk => trivial)⟩, ⟨xs HB.out⟩⟩
     ·rw [if_neg c9] at H
      exact absurd H (by simp)
    ·rw [if_neg c8] at H
     exact absurd H (by simp)
   ·rw [if_neg c7] at H
    have c7b0 : decide (x17_1 < (t260.length : Int)) = false := decide_eq_false c7
    clear c7
    simp only [Option.some.injEq, Prod.mk.injEq] at H
    obtain ⟨rfl, rfl⟩ := H
    go_wp2
    go_ret2
    exact ⟨_, by first | rfl | (simp [errW_none, errW_some] <;> rfl) | (simp [*, errW_none, errW_some] <;> rfl), by (with_reducible repeat (first | apply Kd.R_alloc | apply Kd.R_drewN | apply Kd.R_drew)); exact HO_6.out, by repeat (first | (with_reducible first | exact HB.out | apply below_alloc | apply pw_below_drewN | apply below_drew1) | exact HB.out)⟩

/-! ### laws_FnExactWetTanks: function 12 -/
mutual
def laws_FnExactWetTanks.j0 : Nat → List (S66) → List Int → Bool → List (S63) → List Int → Bool → Bool → Option (Bool)
  | 0, _, _, _, _, _, _, _ => none
  | k + 1, x0, x4, x5, x6, x7, x8, x40 => if x40 = true then (some false) else ((laws_toTankS.f k x0).bind fun t288 => ((laws_eqTankS.f k x6 t288).bind fun t291 => (if t291 = true then ((laws_markTankS.f k x6 1).bind fun bt292 => (if bt292.1 < 0 then (laws_FnExactWetTanks.j1 k x0 x4 x5 x7 true) else ((laws_eqIntS.f k x7 x4).bind fun t294 => (if t294 = true then (laws_FnExactWetTanks.j1 k x0 x4 x5 x7 (x8 != x5)) else (laws_FnExactWetTanks.j1 k x0 x4 x5 x7 true))))) else (some false))))
def laws_FnExactWetTanks.j1 : Nat → List (S66) → List Int → Bool → List Int → Bool → Option (Bool)
  | 0, _, _, _, _, _ => none
  | k + 1, x0, x4, x5, x7, x61 => if x61 = true then (some false) else ((laws_markIntS.f k x7 1).bind fun bt295 => ((laws_heldIntS.f k bt295.2 1).bind fun t297 => (if t297 < 0 then (some false) else (if t297 = bt295.1 then ((laws_toTankS.f k x0).bind fun t298 => ((impl_WetTanks.f k t298).bind fun bt301 => ((laws_eqIntS.f k bt301.1 x4).bind fun t305 => (if t305 = true then (laws_FnExactWetTanks.j2 k bt295.2 bt295.1 (bt301.2 != x5)) else (laws_FnExactWetTanks.j2 k bt295.2 bt295.1 true))))) else (some false)))))
def laws_FnExactWetTanks.j2 : Nat → List Int → Int → Bool → Option (Bool)
  | 0, _, _, _ => none
  | k + 1, x7, x10, x87 => if x87 = true then (some false) else ((laws_heldIntS.f k x7 1).bind fun t306 => (if t306 < 0 then (some false) else (if t306 = x10 then (some true) else (some false))))
end
def laws_FnExactWetTanks.f (k : Nat) (l0 : List (S66)) : Option (Bool) := (laws_szTankS.f l0 1048576).bind fun t272 => (if t272 < 0 then (some true) else ((laws_toTankS.f k l0).bind fun t273 => ((spec_WetTanks.f k t273).bind fun bt276 => ((laws_toTankS.f k l0).bind fun t280 => ((impl_WetTanks.f k t280).bind fun bt283 => ((laws_eqIntS.f k bt283.1 bt276.1).bind fun t287 => (if t287 = true then (laws_FnExactWetTanks.j0 k l0 bt276.1 bt276.2 t280 bt283.1 bt283.2 (bt283.2 != bt276.2)) else (laws_FnExactWetTanks.j0 k l0 bt276.1 bt276.2 t280 bt283.1 bt283.2 true))))))))
theorem laws_FnExactWetTanks.mono_l : ∀ k, (∀ y0 y1 y2 y3 y4 y5 y6, LeO (laws_FnExactWetTanks.j0 k y0 y1 y2 y3 y4 y5 y6) (laws_FnExactWetTanks.j0 (k + 1) y0 y1 y2 y3 y4 y5 y6)) ∧ (∀ y0 y1 y2 y3 y4, LeO (laws_FnExactWetTanks.j1 k y0 y1 y2 y3 y4) (laws_FnExactWetTanks.j1 (k + 1) y0 y1 y2 y3 y4)) ∧ (∀ y0 y1 y2, LeO (laws_FnExactWetTanks.j2 k y0 y1 y2) (laws_FnExactWetTanks.j2 (k + 1) y0 y1 y2))
 | 0 => ⟨fun _ _ _ _ _ _ _ r h => by simp [laws_FnExactWetTanks.j0] at h, fun _ _ _ _ _ r h => by simp [laws_FnExactWetTanks.j1] at h, fun _ _ _ r h => by simp [laws_FnExactWetTanks.j2] at h⟩
 | k + 1 => by
  obtain ⟨ih0, ih1, ih2⟩ := laws_FnExactWetTanks.mono_l k
  refine ⟨?_, ?_, ?_⟩
  ·intro y0 y1 y2 y3 y4 y5 y6
   unfold laws_FnExactWetTanks.j0
   repeat' first
   | (with_reducible exact ih0 _ _ _ _ _ _ _)
   | (with_reducible exact ih1 _ _ _ _ _)
   | (with_reducible exact ih2 _ _ _)
   | (with_reducible exact impl_WetTanks.mono _ _)
   | (with_reducible exact laws_eqIntS.mono _ _ _)
   | (with_reducible exact laws_eqTankS.mono _ _ _)
   | (with_reducible exact laws_heldIntS.mono _ _ _)
   | (with_reducible exact laws_markIntS.mono _ _ _)
   | (with_reducible exact laws_markTankS.mono _ _ _)
   | (with_reducible exact laws_toTankS.mono _ _)
   | (with_reducible exact spec_WetTanks.mono _ _)
   | (with_reducible exact LeO.refl _)
   | (with_reducible exact LeO.none _)
   | (with_reducible refine LeO.ite ?_ ?_)
   | (with_reducible refine LeO.bind ?_ (fun _ => ?_))
   | exact ih0 _ _ _ _ _ _ _
   | exact ih1 _ _ _ _ _
   | exact ih2 _ _ _
   | exact impl_WetTanks.mono _ _
   | exact laws_eqIntS.mono _ _ _
   | exact laws_eqTankS.mono _ _ _
   | exact laws_heldIntS.mono _ _ _
   | exact laws_markIntS.mono _ _ _
   | exact laws_markTankS.mono _ _ _
   | exact laws_toTankS.mono _ _
   | exact spec_WetTanks.mono _ _
   | exact LeO.none _
   | refine LeO.ite ?_ ?_
   | refine LeO.bind ?_ (fun _ => ?_)
  ·intro y0 y1 y2 y3 y4
   unfold laws_FnExactWetTanks.j1
   repeat' first
   | (with_reducible exact ih0 _ _ _ _ _ _ _)
   | (with_reducible exact ih1 _ _ _ _ _)
   | (with_reducible exact ih2 _ _ _)
   | (with_reducible exact impl_WetTanks.mono _ _)
   | (with_reducible exact laws_eqIntS.mono _ _ _)
   | (with_reducible exact laws_eqTankS.mono _ _ _)
   | (with_reducible exact laws_heldIntS.mono _ _ _)
   | (with_reducible exact laws_markIntS.mono _ _ _)
   | (with_reducible exact laws_markTankS.mono _ _ _)
   | (with_reducible exact laws_toTankS.mono _ _)
   | (with_reducible exact spec_WetTanks.mono _ _)
   | (with_reducible exact LeO.refl _)
   | (with_reducible exact LeO.none _)
   | (with_reducible refine LeO.ite ?_ ?_)
   | (with_reducible refine LeO.bind ?_ (fun _ => ?_))
   | exact ih0 _ _ _ _ _ _ _
   | exact ih1 _ _ _ _ _
   | exact ih2 _ _ _
   | exact impl_WetTanks.mono _ _
   | exact laws_eqIntS.mono _ _ _
   | exact laws_eqTankS.mono _ _ _
   | exact laws_heldIntS.mono _ _ _
   | exact laws_markIntS.mono _ _ _
   | exact laws_markTankS.mono _ _ _
   | exact laws_toTankS.mono _ _
   | exact spec_WetTanks.mono _ _
   | exact LeO.none _
   | refine LeO.ite ?_ ?_
   | refine LeO.bind ?_ (fun _ => ?_)
  ·intro y0 y1 y2
   unfold laws_FnExactWetTanks.j2
   repeat' first
   | (with_reducible exact ih0 _ _ _ _ _ _ _)
   | (with_reducible exact ih1 _ _ _ _ _)
   | (with_reducible exact ih2 _ _ _)
   | (with_reducible exact impl_WetTanks.mono _ _)
   | (with_reducible exact laws_eqIntS.mono _ _ _)
   | (with_reducible exact laws_eqTankS.mono _ _ _)
   | (with_reducible exact laws_heldIntS.mono _ _ _)
   | (with_reducible exact laws_markIntS.mono _ _ _)
   | (with_reducible exact laws_markTankS.mono _ _ _)
   | (with_reducible exact laws_toTankS.mono _ _)
   | (with_reducible exact spec_WetTanks.mono _ _)
   | (with_reducible exact LeO.refl _)
   | (with_reducible exact LeO.none _)
   | (with_reducible refine LeO.ite ?_ ?_)
   | (with_reducible refine LeO.bind ?_ (fun _ => ?_))
   | exact ih0 _ _ _ _ _ _ _
   | exact ih1 _ _ _ _ _
   | exact ih2 _ _ _
   | exact impl_WetTanks.mono _ _
   | exact laws_eqIntS.mono _ _ _
   | exact laws_eqTankS.mono _ _ _
   | exact laws_heldIntS.mono _ _ _
   | exact laws_markIntS.mono _ _ _
   | exact laws_markTankS.mono _ _ _
   | exact laws_toTankS.mono _ _
   | exact spec_WetTanks.mono _ _
   | exact LeO.none _
   | refine LeO.ite ?_ ?_
   | refine LeO.bind ?_ (fun _ => ?_)
theorem laws_FnExactWetTanks.mono : ∀ a0 k, LeO (laws_FnExactWetTanks.f k a0) (laws_FnExactWetTanks.f (k + 1) a0) := by
 intro a0 k
 obtain ⟨ih0, ih1, ih2⟩ := laws_FnExactWetTanks.mono_l k
 unfold laws_FnExactWetTanks.f
 repeat' first
   | (with_reducible exact ih0 _ _ _ _ _ _ _)
   | (with_reducible exact ih1 _ _ _ _ _)
   | (with_reducible exact ih2 _ _ _)
   | (with_reducible exact impl_WetTanks.mono _ _)
   | (with_reducible exact laws_eqIntS.mono _ _ _)
   | (with_reducible exact laws_eqTankS.mono _ _ _)
   | (with_reducible exact laws_heldIntS.mono _ _ _)
   | (with_reducible exact laws_markIntS.mono _ _ _)
   | (with_reducible exact laws_markTankS.mono _ _ _)
   | (with_reducible exact laws_toTankS.mono _ _)
   | (with_reducible exact spec_WetTanks.mono _ _)
   | (with_reducible exact LeO.refl _)
   | (with_reducible exact LeO.none _)
   | (with_reducible refine LeO.ite ?_ ?_)
   | (with_reducible refine LeO.bind ?_ (fun _ => ?_))
   | exact ih0 _ _ _ _ _ _ _
   | exact ih1 _ _ _ _ _
   | exact ih2 _ _ _
   | exact impl_WetTanks.mono _ _
   | exact laws_eqIntS.mono _ _ _
   | exact laws_eqTankS.mono _ _ _
   | exact laws_heldIntS.mono _ _ _
   | exact laws_markIntS.mono _ _ _
   | exact laws_markTankS.mono _ _ _
   | exact laws_toTankS.mono _ _
   | exact spec_WetTanks.mono _ _
   | exact LeO.none _
   | refine LeO.ite ?_ ?_
   | refine LeO.bind ?_ (fun _ => ?_)
set_option maxHeartbeats 8000000 in
set_option maxRecDepth 100000 in
theorem laws_FnExactWetTanks.calls (k : Nat) (A0 : Option Addr) (c0 : Nat) (l0 : List (S66)) (w : World) (hr0 : Kd.C k66 w A0 l0.length l0) (hc0 : l0.length ≤ c0) (h : laws_FnExactWetTanks.f k l0 = some true) :
  Calls Try.prog 12 #[.slice A0 l0.length c0] w fun e w' => e = .returned (.bool true) ∧ Below w.heap.size w w' := by
 have HR0 := Aside0.mk hr0
 have HC0 := Aside0.mk hc0
 clear hr0 hc0
 have HB := Aside0.mk (Below.refl w.heap.size w)
 have H : ((laws_szTankS.f l0 1048576).bind fun t272 => (if t272 < 0 then (some true) else ((laws_toTankS.f k l0).bind fun t273 => ((spec_WetTanks.f k t273).bind fun bt276 => ((laws_toTankS.f k l0).bind fun t280 => ((impl_WetTanks.f k t280).bind fun bt283 => ((laws_eqIntS.f k bt283.1 bt276.1).bind fun t287 => (if t287 = true then (laws_FnExactWetTanks.j0 k l0 bt276.1 bt276.2 t280 bt283.1 bt283.2 (bt283.2 != bt276.2)) else (laws_FnExactWetTanks.j0 k l0 bt276.1 bt276.2 t280 bt283.1 bt283.2 true))))))))) = some true := h
 clear h
 replace H := Option.bind_eq_some_iff.mp H
 obtain ⟨t272, A20, H⟩ := H
 replace H : (if t272 < 0 then (some true) else ((laws_toTankS.f k l0).bind fun t273 => ((spec_WetTanks.f k t273).bind fun bt276 => ((laws_toTankS.f k l0).bind fun t280 => ((impl_WetTanks.f k t280).bind fun bt283 => ((laws_eqIntS.f k bt283.1 bt276.1).bind fun t287 => (if t287 = true then (laws_FnExactWetTanks.j0 k l0 bt276.1 bt276.2 t280 bt283.1 bt283.2 (bt283.2 != bt276.2)) else (laws_FnExactWetTanks.j0 k l0 bt276.1 bt276.2 t280 bt283.1 bt283.2 true)))))))) = some true := H
 have A2 := Aside0.mk A20
 clear A20
 by_cases c3 : t272 < 0
 ·rw [if_pos c3] at H
  have c3b0 : decide (t272 < 0) = true := decide_eq_true c3
  clear c3
  clear H
  go_enter Try.func12, Try.ntmps12
  go_wp2_with (first | ((with_reducible refine gate_callee (f := 13) rfl ?_); refine goesL_ (some 16) rfl rfl Try.func13 (by kernel_rfl) rfl #[.slice A0 l0.length c0, .int .i64 1048576] rfl (by (try simp only [List.map_toArray, List.map_cons, List.map_nil]); first | done | rfl | (simp only [List.length_drop, List.length_take]; rfl)) ?_; (with_reducible refine (laws_szTankS.calls _ _ l0 1048576 t272 _ ?side1 ?side2 A2.out).mono ?_); (case side1 => exact xd (HR0.out)); (case side2 => exact HC0.out); rintro e w' ⟨rfl, ⟨nd, rfl⟩⟩; refine ⟨_, rfl, ?_⟩))
  go_ret
  exact ⟨by first | rfl | (simp [errW_none, errW_some] <;> rfl) | (simp [*, errW_none, errW_some] <;> rfl), by repeat (first | (with_reducible first | exact HB.out | apply below_alloc | apply pw_below_drewN | apply below_drew1) | exact HB.out)⟩
 ·rw [if_neg c3] at H
  have c3b0 : decide (t272 < 0) = false := decide_eq_false c3
  clear c3
  replace H := Option.bind_eq_some_iff.mp H
  obtain ⟨t273, A40, H⟩ := H
  replace H : ((spec_WetTanks.f k t273).bind fun bt276 => ((laws_toTankS.f k l0).bind fun t280 => ((impl_WetTanks.f k t280).bind fun bt283 => ((laws_eqIntS.f k bt283.1 bt276.1).bind fun t287 => (if t287 = true then (laws_FnExactWetTanks.j0 k l0 bt276.1 bt276.2 t280 bt283.1 bt283.2 (bt283.2 != bt276.2)) else (laws_FnExactWetTanks.j0 k l0 bt276.1 bt276.2 t280 bt283.1 bt283.2 true)))))) = some true := H
  have A4 := Aside0.mk A40
  clear A40
  replace H := Option.bind_eq_some_iff.mp H
  obtain ⟨⟨t276, t277⟩, A50, H⟩ := H
  replace H : ((laws_toTankS.f k l0).bind fun t280 => ((impl_WetTanks.f k t280).bind fun bt283 => ((laws_eqIntS.f k bt283.1 t276).bind fun t287 => (if t287 = true then (laws_FnExactWetTanks.j0 k l0 t276 t277 t280 bt283.1 bt283.2 (bt283.2 != t277)) else (laws_FnExactWetTanks.j0 k l0 t276 t277 t280 bt283.1 bt283.2 true))))) = some true := H
  have A5 := Aside0.mk A50
  clear A50
  replace H := Option.bind_eq_some_iff.mp H
  obtain ⟨t280, A60, H⟩ := H
  replace H : ((impl_WetTanks.f k t280).bind fun bt283 => ((laws_eqIntS.f k bt283.1 t276).bind fun t287 => (if t287 = true then (laws_FnExactWetTanks.j0 k l0 t276 t277 t280 bt283.1 bt283.2 (bt283.2 != t277)) else (laws_FnExactWetTanks.j0 k l0 t276 t277 t280 bt283.1 bt283.2 true)))) = some true := H
  have A6 := Aside0.mk A60
  clear A60
  replace H := Option.bind_eq_some_iff.mp H
  obtain ⟨⟨t283, t284⟩, A70, H⟩ := H
  replace H : ((laws_eqIntS.f k t283 t276).bind fun t287 => (if t287 = true then (laws_FnExactWetTanks.j0 k l0 t276 t277 t280 t283 t284 (t284 != t277)) else (laws_FnExactWetTanks.j0 k l0 t276 t277 t280 t283 t284 true))) = some true := H
  have A7 := Aside0.mk A70
  clear A70
  have HC8 := Aside0.mk H
  clear H
  go_enter Try.func12, Try.ntmps12
  go_upto_region 8 with (first | ((with_reducible refine gate_callee (f := 13) rfl ?_); refine goesL_ (some 16) rfl rfl Try.func13 (by kernel_rfl) rfl #[.slice A0 l0.length c0, .int .i64 1048576] rfl (by (try simp only [List.map_toArray, List.map_cons, List.map_nil]); first | done | rfl | (simp only [List.length_drop, List.length_take]; rfl)) ?_; (with_reducible refine (laws_szTankS.calls _ _ l0 1048576 t272 _ ?side1 ?side2 A2.out).mono ?_); (case side1 => exact xd (HR0.out)); (case side2 => exact HC0.out); rintro e w' ⟨rfl, ⟨nd, rfl⟩⟩; refine ⟨_, rfl, ?_⟩) | ((with_reducible refine gate_callee (f := 15) rfl ?_); refine goesL_ (some 21) rfl rfl Try.func15 (by kernel_rfl) rfl #[.slice A0 l0.length c0] rfl (by (try simp only [List.map_toArray, List.map_cons, List.map_nil]); first | done | rfl | (simp only [List.length_drop, List.length_take]; rfl)) ?_; (with_reducible refine (laws_toTankS.calls k _ _ l0 t273 _ ?side1 ?side2 A4.out).mono ?_); (case side1 => exact xd (HR0.out)); (case side2 => exact HC0.out); rintro e w9 ⟨v274, rfl, ho0, hb⟩; refine ⟨_, rfl, ?_⟩; have HO275 := Aside0.mk (Kd.R_lower ho0 (below_size (xs HB.out))); replace HB := xp HB hb; (try clear hb); (try clear hb2); (try clear hk); (try clear hi); (try clear ho0); obtain ⟨Ao10, co10, eo10⟩ := Kd.R_slice HO275.out; subst eo10) | ((with_reducible refine gate_callee (f := 48) rfl ?_); refine goesL_ (some 22) rfl rfl Try.func48 (by kernel_rfl) rfl #[.slice Ao10 t273.length co10] rfl (by (try simp only [List.map_toArray, List.map_cons, List.map_nil]); first | done | rfl | (simp only [List.length_drop, List.length_take]; rfl)) ?_; (with_reducible refine (spec_WetTanks.calls k _ _ t273 t276 t277 _ ?side1 ?side2 A5.out).mono ?_); (case side1 => exact xd ((Kd.R_reads' HO275.out).2.2)); (case side2 => exact (Kd.R_reads' HO275.out).2.1); rintro e w11 ⟨v278, rfl, ho0, hb⟩; refine ⟨_, rfl, ?_⟩; replace HO275 := xq HO275 hb; have HO279 := Aside0.mk (Kd.R_lower ho0 (below_size (xs HB.out))); replace HB := xp HB hb; (try clear hb); (try clear hb2); (try clear hk); (try clear hi); (try clear ho0)) | ((with_reducible refine gate_callee (f := 15) rfl ?_); refine goesL_ (some 26) rfl rfl Try.func15 (by kernel_rfl) rfl #[.slice A0 l0.length c0] rfl (by (try simp only [List.map_toArray, List.map_cons, List.map_nil]); first | done | rfl | (simp only [List.length_drop, List.length_take]; rfl)) ?_; (with_reducible refine (laws_toTankS.calls k _ _ l0 t280 _ ?side1 ?side2 A6.out).mono ?_); (case side1 => exact xd ((Kd.C_below HR0.out HB.out))); (case side2 => exact HC0.out); rintro e w12 ⟨v281, rfl, ho0, hb⟩; refine ⟨_, rfl, ?_⟩; replace HO279 := xq HO279 hb; have HO282 := Aside0.mk (Kd.R_lower (Kd.R_new' ho0 (Kd.R_lt (xr HO275.out))) (below_size (xs HB.out))); replace HO275 := Aside0.mk (Kd.R_elder' (xr HO275.out) (Kd.R_base ho0) hb); replace HB := xp HB hb; (try clear hb); (try clear hb2); (try clear hk); (try clear hi); (try clear ho0); obtain ⟨Ao13, co13, eo13⟩ := Kd.R_slice HO282.out; subst eo13) | ((with_reducible refine gate_callee (f := 49) rfl ?_); refine goesL_ (some 29) rfl rfl Try.func49 (by kernel_rfl) rfl #[.slice Ao13 t280.length co13] rfl (by (try simp only [List.map_toArray, List.map_cons, List.map_nil]); first | done | rfl | (simp only [List.length_drop, List.length_take]; rfl)) ?_; (with_reducible refine (impl_WetTanks.calls k _ _ t280 t283 t284 _ ?side1 ?side2 A7.out).mono ?_); (case side1 => exact xd ((Kd.R_reads' HO282.out).2.2)); (case side2 => exact (Kd.R_reads' HO282.out).2.1); rintro e w14 ⟨v285, rfl, ho0, hb⟩; refine ⟨_, rfl, ?_⟩; replace HO275 := xq HO275 hb; replace HO282 := xq HO282 hb; have HO286 := Aside0.mk (Kd.R_lower (Kd.R_new' ho0 (Kd.R_lt (xr HO279.out))) (below_size (xs HB.out))); replace HO279 := Aside0.mk (Kd.R_elder' (xr HO279.out) (Kd.R_base ho0) hb); replace HB := xp HB hb; (try clear hb); (try clear hb2); (try clear hk); (try clear hi); (try clear ho0)))
  (try simp only [Act.put, List.setIfInBounds_toArray, List.set_cons_zero, List.set_cons_succ])
  go_cut [40] (fun v40 wc => ∃ (kq : Nat) (x40_7 : Bool), v40 = .bool x40_7 ∧ Aside0 (laws_FnExactWetTanks.j0 kq l0 t276 t277 t280 t283 t284 x40_7 = some true) ∧ Aside0 (kq ≤ k) ∧ Aside0 (Kd.R (Kd.int .i64) 3 wc w.heap.size (fun k_ => nV k_ v285) v278 t276) ∧ Aside0 (Kd.R k63 63 wc w.heap.size (fun _ => True) (.slice Ao13 t280.length co13) t280) ∧ Aside0 (Kd.R (Kd.int .i64) 3 wc w.heap.size (fun k_ => nV k_ v278) v285 t283) ∧ Aside0 (Below w.heap.size w wc))
  case first =>
   have H := HC8.out
   clear HC8
   replace H := Option.bind_eq_some_iff.mp H
   obtain ⟨t287, A150, H⟩ := H
   replace H : (if t287 = true then (laws_FnExactWetTanks.j0 k l0 t276 t277 t280 t283 t284 (t284 != t277)) else (laws_FnExactWetTanks.j0 k l0 t276 t277 t280 t283 t284 true)) = some true := H
   have A15 := Aside0.mk A150
   clear A150
   by_cases c16 : t287 = true
   ·subst c16
    have H1 : (laws_FnExactWetTanks.j0 k l0 t276 t277 t280 t283 t284 (t284 != t277)) = some true := by first | (rw [if_pos rfl] at H; exact H) | rfl
    clear H
    have H := H1
    clear H1
    have H' := Aside0.mk H
    clear H
    obtain ⟨Ao17, co17, eo17⟩ := Kd.R_slice HO286.out
    subst eo17
    obtain ⟨Ao18, co18, eo18⟩ := Kd.R_slice HO279.out
    subst eo18
    go_wp2_with (first | ((with_reducible refine gate_callee (f := 41) rfl ?_); refine goesL_ (some 34) rfl rfl Try.func41 (by kernel_rfl) rfl #[.slice Ao17 t283.length co17, .slice Ao18 t276.length co18] rfl (by (try simp only [List.map_toArray, List.map_cons, List.map_nil]); first | done | rfl | (simp only [List.length_drop, List.length_take]; rfl)) ?_; (with_reducible refine (laws_eqIntS.calls k _ _ t283 _ _ t276 true _ ?side1 ?side2 ?side3 ?side4 A15.out).mono ?_); (case side1 => exact xd ((Kd.R_reads' HO286.out).2.2)); (case side2 => exact (Kd.R_reads' HO286.out).2.1); (case side3 => exact xd ((Kd.R_reads' HO279.out).2.2)); (case side4 => exact (Kd.R_reads' HO279.out).2.1); rintro e w' ⟨rfl, ⟨nd, rfl⟩⟩; refine ⟨_, rfl, ?_⟩))
    go_meet
    case rel => exact ⟨_, ((t284 != t277)), (by first | rfl | (simp; done) | (simp [*]; done)), H', ⟨by first | omega | exact Nat.le_refl _⟩, ⟨xm HO279 (fun _ hk => hk.2)⟩, ⟨xm HO282 (fun _ hk => trivial)⟩, ⟨xm HO286 (fun _ hk => hk.2)⟩, ⟨xs HB.out⟩⟩
   ·replace c16 := Bool.eq_false_iff.mpr c16
    subst c16
    have H1 : (laws_FnExactWetTanks.j0 k l0 t276 t277 t280 t283 t284 true) = some true := by first | (rw [if_neg (show ¬ (false = true) by decide)] at H; exact H) | rfl
    clear H
    have H := H1
    clear H1
    have H' := Aside0.mk H
    clear H
    obtain ⟨Ao19, co19, eo19⟩ := Kd.R_slice HO286.out
    subst eo19
    obtain ⟨Ao20, co20, eo20⟩ := Kd.R_slice HO279.out
    subst eo20
    go_wp2_with (first | ((with_reducible refine gate_callee (f := 41) rfl ?_); refine goesL_ (some 34) rfl rfl Try.func41 (by kernel_rfl) rfl #[.slice Ao19 t283.length co19, .slice Ao20 t276.length co20] rfl (by (try simp only [List.map_toArray, List.map_cons, List.map_nil]); first | done | rfl | (simp only [List.length_drop, List.length_take]; rfl)) ?_; (with_reducible refine (laws_eqIntS.calls k _ _ t283 _ _ t276 false _ ?side1 ?side2 ?side3 ?side4 A15.out).mono ?_); (case side1 => exact xd ((Kd.R_reads' HO286.out).2.2)); (case side2 => exact (Kd.R_reads' HO286.out).2.1); (case side3 => exact xd ((Kd.R_reads' HO279.out).2.2)); (case side4 => exact (Kd.R_reads' HO279.out).2.1); rintro e w' ⟨rfl, ⟨nd, rfl⟩⟩; refine ⟨_, rfl, ?_⟩))
    go_meet
    case rel => exact ⟨_, (true), (by first | rfl | (simp; done) | (simp [*]; done)), H', ⟨by first | omega | exact Nat.le_refl _⟩, ⟨xm HO279 (fun _ hk => hk.2)⟩, ⟨xm HO282 (fun _ hk => trivial)⟩, ⟨xm HO286 (fun _ hk => hk.2)⟩, ⟨xs HB.out⟩⟩
  case rest =>
   clear HC8
   try clear c1
   try clear p2
   try clear c3
   try clear c3b0
   try clear c4
   try clear c12
   try clear c13
   try clear c15
   try clear c16
   obtain ⟨kq, x40_7, rfl, HA, HJ7, HO_4, HO_6, HO_7, HB⟩ := hcut
   cases kq with
   | zero => exact absurd HA.out (by simp [laws_FnExactWetTanks.j0])
   | succ kj7 =>
    have H := HA.out
    clear HA
    simp only [laws_FnExactWetTanks.j0] at H
    by_cases c21 : x40_7 = true
    ·subst c21
     have H1 : (some false) = some true := by first | (rw [if_pos rfl] at H; exact H) | rfl
     clear H
     have H := H1
     clear H1
     exact absurd H (by simp)
    ·replace c21 := Bool.eq_false_iff.mpr c21
     subst c21
     have H1 : ((laws_toTankS.f kj7 l0).bind fun t288 => ((laws_eqTankS.f kj7 t280 t288).bind fun t291 => (if t291 = true then ((laws_markTankS.f kj7 t280 1).bind fun bt292 => (if bt292.1 < 0 then (laws_FnExactWetTanks.j1 kj7 l0 t276 t277 t283 true) else ((laws_eqIntS.f kj7 t283 t276).bind fun t294 => (if t294 = true then (laws_FnExactWetTanks.j1 kj7 l0 t276 t277 t283 (t284 != t277)) else (laws_FnExactWetTanks.j1 kj7 l0 t276 t277 t283 true))))) else (some false)))) = some true := by first | (rw [if_neg (show ¬ (false = true) by decide)] at H; exact H) | rfl
     clear H
     have H := H1
     clear H1
     replace H := Option.bind_eq_some_iff.mp H
     obtain ⟨t288, A220, H⟩ := H
     replace H : ((laws_eqTankS.f kj7 t280 t288).bind fun t291 => (if t291 = true then ((laws_markTankS.f kj7 t280 1).bind fun bt292 => (if bt292.1 < 0 then (laws_FnExactWetTanks.j1 kj7 l0 t276 t277 t283 true) else ((laws_eqIntS.f kj7 t283 t276).bind fun t294 => (if t294 = true then (laws_FnExactWetTanks.j1 kj7 l0 t276 t277 t283 (t284 != t277)) else (laws_FnExactWetTanks.j1 kj7 l0 t276 t277 t283 true))))) else (some false))) = some true := H
     have A22 := Aside0.mk A220
     clear A220
     replace H := Option.bind_eq_some_iff.mp H
     obtain ⟨t291, A230, H⟩ := H
     replace H : (if t291 = true then ((laws_markTankS.f kj7 t280 1).bind fun bt292 => (if bt292.1 < 0 then (laws_FnExactWetTanks.j1 kj7 l0 t276 t277 t283 true) else ((laws_eqIntS.f kj7 t283 t276).bind fun t294 => (if t294 = true then (laws_FnExactWetTanks.j1 kj7 l0 t276 t277 t283 (t284 != t277)) else (laws_FnExactWetTanks.j1 kj7 l0 t276 t277 t283 true))))) else (some false)) = some true := H
     have A23 := Aside0.mk A230
     clear A230
     by_cases c24 : t291 = true
     ·subst c24
      have H1 : ((laws_markTankS.f kj7 t280 1).bind fun bt292 => (if bt292.1 < 0 then (laws_FnExactWetTanks.j1 kj7 l0 t276 t277 t283 true) else ((laws_eqIntS.f kj7 t283 t276).bind fun t294 => (if t294 = true then (laws_FnExactWetTanks.j1 kj7 l0 t276 t277 t283 (t284 != t277)) else (laws_FnExactWetTanks.j1 kj7 l0 t276 t277 t283 true))))) = some true := by first | (rw [if_pos rfl] at H; exact H) | rfl
      clear H
      have H := H1
      clear H1
      replace H := Option.bind_eq_some_iff.mp H
      obtain ⟨⟨t292, t293⟩, A250, H⟩ := H
      replace H : (if t292 < 0 then (laws_FnExactWetTanks.j1 kj7 l0 t276 t277 t283 true) else ((laws_eqIntS.f kj7 t283 t276).bind fun t294 => (if t294 = true then (laws_FnExactWetTanks.j1 kj7 l0 t276 t277 t283 (t284 != t277)) else (laws_FnExactWetTanks.j1 kj7 l0 t276 t277 t283 true)))) = some true := H
      have A25 := Aside0.mk A250
      clear A250
      have HC26 := Aside0.mk H
      clear H
      go_upto_region 14 with (first | ((with_reducible refine gate_callee (f := 15) rfl ?_); refine goesL_ (some 43) rfl rfl Try.func15 (by kernel_rfl) rfl #[.slice A0 l0.length c0] rfl (by (try simp only [List.map_toArray, List.map_cons, List.map_nil]); first | done | rfl | (simp only [List.length_drop, List.length_take]; rfl)) ?_; (with_reducible refine (laws_toTankS.calls kj7 _ _ l0 t288 _ ?side1 ?side2 A22.out).mono ?_); (case side1 => exact xd ((Kd.C_below HR0.out HB.out))); (case side2 => exact HC0.out); rintro e w27 ⟨v289, rfl, ho0, hb⟩; refine ⟨_, rfl, ?_⟩; replace HO_4 := xq HO_4 hb; replace HO_7 := xq HO_7 hb; have HO290 := Aside0.mk (Kd.R_lower (Kd.R_new' ho0 (Kd.R_lt (xr HO_6.out))) (below_size (xs HB.out))); replace HO_6 := Aside0.mk (Kd.R_elder' (xr HO_6.out) (Kd.R_base ho0) hb); replace HB := xp HB hb; (try clear hb); (try clear hb2); (try clear hk); (try clear hi); (try clear ho0); obtain ⟨Ao28, co28, eo28⟩ := Kd.R_slice HO290.out; subst eo28) | ((with_reducible refine gate_callee (f := 18) rfl ?_); refine goesL_ (some 44) rfl rfl Try.func18 (by kernel_rfl) rfl #[.slice Ao13 t280.length co13, .slice Ao28 t288.length co28] rfl (by (try simp only [List.map_toArray, List.map_cons, List.map_nil]); first | done | rfl | (simp only [List.length_drop, List.length_take]; rfl)) ?_; (with_reducible refine (laws_eqTankS.calls kj7 _ _ t280 _ _ t288 true _ ?side1 ?side2 ?side3 ?side4 A23.out).mono ?_); (case side1 => exact xd ((Kd.R_reads' HO_6.out).2.2)); (case side2 => exact (Kd.R_reads' HO_6.out).2.1); (case side3 => exact xd ((Kd.R_reads' HO290.out).2.2)); (case side4 => exact (Kd.R_reads' HO290.out).2.1); rintro e w29 ⟨rfl, hb⟩; refine ⟨_, rfl, ?_⟩; replace HO_4 := xq HO_4 hb; replace HO_6 := xq HO_6 hb; replace HO_7 := xq HO_7 hb; replace HO290 := xq HO290 hb; replace HB := xp HB hb; (try clear hb); (try clear hb2); (try clear hk); (try clear hi)) | ((with_reducible refine gate_callee (f := 19) rfl ?_); refine goesL_ (some 48) rfl rfl Try.func19 (by kernel_rfl) rfl #[.slice Ao13 t280.length co13, .int .i64 1] rfl (by (try simp only [List.map_toArray, List.map_cons, List.map_nil]); first | done | rfl | (simp only [List.length_drop, List.length_take]; rfl)) ?_; (with_reducible refine (laws_markTankS.calls kj7 (fun k_ => some k_ = (.slice Ao13 t280.length co13 : Value).ownBlock) (.slice Ao13 t280.length co13) t280 1 t292 t293 w _ ?side1 ?side2 A25.out).mono ?_); (case side1 => repeat (first | (with_reducible first | exact HB.out | apply below_alloc | apply pw_below_drewN | apply below_drew1) | exact HB.out)); (case side2 => exact Kd.R_tight rfl HO_6.out); rintro e w30 ⟨rfl, hy0, hb, hkp⟩; refine ⟨_, rfl, ?_⟩; replace HO_4 := Aside0.mk (Kd.R_mono (ok' := fun k_ => nV k_ v285) (Kd.R_keptB ((Kd.R_apart' HO_4.out (Kd.R_typed HO_6.out) (by decide))) hkp (fun k_ hk_ hs_ => (hk_.2) hs_)) (fun k_ hk_ => hk_.1.1)); replace HO_7 := Aside0.mk (Kd.R_mono (ok' := fun k_ => nV k_ v278) (Kd.R_keptB ((Kd.R_apart' HO_7.out (Kd.R_typed HO_6.out) (by decide))) hkp (fun k_ hk_ hs_ => (hk_.2) hs_)) (fun k_ hk_ => hk_.1.1)); replace HO_6 := Aside0.mk (Kd.R_reok rfl hy0 (fun k_ e_ => HO_6.out.1 k_ e_)); replace HO290 := Aside0.mk (Kd.R_mono (ok' := fun k_ => nS k_ Ao13 t280.length co13) (Kd.R_keptB (HO290.out) hkp (fun k_ hk_ hs_ => (hk_.2) hs_)) (fun k_ hk_ => hk_.1.2)); replace HB := Aside0.mk (hb); (try clear hb); (try clear hkp); (try clear hy0)))
      (try simp only [Act.put, List.setIfInBounds_toArray, List.set_cons_zero, List.set_cons_succ])
      go_cut [61] (fun v61 wc => ∃ (kq : Nat) (x61_25 : Bool), v61 = .bool x61_25 ∧ Aside0 (laws_FnExactWetTanks.j1 kq l0 t276 t277 t283 x61_25 = some true) ∧ Aside0 (kq ≤ kj7) ∧ Aside0 (Kd.R (Kd.int .i64) 3 wc w.heap.size (fun k_ => nV k_ v285) v278 t276) ∧ Aside0 (Kd.R (Kd.int .i64) 3 wc w.heap.size (fun k_ => nV k_ v278) v285 t283) ∧ Aside0 (Below w.heap.size w wc))
      case first =>
       have H := HC26.out
       clear HC26
       by_cases c31 : t292 < 0
       ·rw [if_pos c31] at H
        have c31b0 : decide (t292 < 0) = true := decide_eq_true c31
        clear c31
        (first | rw [c31b0] | (simp only [i64_w, i32_w]; rw [c31b0]) | skip)
        have H' := Aside0.mk H
        clear H
        go_wp2
        go_meet
        case rel => exact ⟨_, (true), (by first | rfl | (simp; done) | (simp [*]; done)), H', ⟨by have := HJ7.out; first | omega | exact Nat.le_refl _⟩, ⟨xr HO_4.out⟩, ⟨xr HO_7.out⟩, ⟨xs HB.out⟩⟩
       ·rw [if_neg c31] at H
        have c31b0 : decide (t292 < 0) = false := decide_eq_false c31
        clear c31
        (first | rw [c31b0] | (simp only [i64_w, i32_w]; rw [c31b0]) | skip)
        replace H := Option.bind_eq_some_iff.mp H
        obtain ⟨t294, A320, H⟩ := H
        replace H : (if t294 = true then (laws_FnExactWetTanks.j1 kj7 l0 t276 t277 t283 (t284 != t277)) else (laws_FnExactWetTanks.j1 kj7 l0 t276 t277 t283 true)) = some true := H
        have A32 := Aside0.mk A320
        clear A320
        by_cases c33 : t294 = true
        ·subst c33
         have H1 : (laws_FnExactWetTanks.j1 kj7 l0 t276 t277 t283 (t284 != t277)) = some true := by first | (rw [if_pos rfl] at H; exact H) | rfl
         clear H
         have H := H1
         clear H1
         have H' := Aside0.mk H
         clear H
         obtain ⟨Ao34, co34, eo34⟩ := Kd.R_slice HO_7.out
         subst eo34
         obtain ⟨Ao35, co35, eo35⟩ := Kd.R_slice HO_4.out
         subst eo35
         go_wp2_with (first | (go_at_call 41; (with_reducible refine (laws_eqIntS.calls kj7 _ _ t283 _ _ t276 true _ ?side1 ?side2 ?side3 ?side4 A32.out).mono ?_); (case side1 => exact xd ((Kd.R_reads' HO_7.out).2.2)); (case side2 => exact (Kd.R_reads' HO_7.out).2.1); (case side3 => exact xd ((Kd.R_reads' HO_4.out).2.2)); (case side4 => exact (Kd.R_reads' HO_4.out).2.1); rintro e w' ⟨rfl, ⟨nd, rfl⟩⟩))
         go_meet
         case rel => exact ⟨_, ((t284 != t277)), (by first | rfl | (simp; done) | (simp [*]; done)), H', ⟨by have := HJ7.out; first | omega | exact Nat.le_refl _⟩, ⟨xr HO_4.out⟩, ⟨xr HO_7.out⟩, ⟨xs HB.out⟩⟩
        ·replace c33 := Bool.eq_false_iff.mpr c33
         subst c33
         have H1 : (laws_FnExactWetTanks.j1 kj7 l0 t276 t277 t283 true) = some true := by first | (rw [if_neg (show ¬ (false = true) by decide)] at H; exact H) | rfl
         clear H
         have H := H1
         clear H1
         have H' := Aside0.mk H
         clear H
         obtain ⟨Ao36, co36, eo36⟩ := Kd.R_slice HO_7.out
         subst eo36
         obtain ⟨Ao37, co37, eo37⟩ := Kd.R_slice HO_4.out
         subst eo37
         go_wp2_with (first | (go_at_call 41; (with_reducible refine (laws_eqIntS.calls kj7 _ _ t283 _ _ t276 false _ ?side1 ?side2 ?side3 ?side4 A32.out).mono ?_); (case side1 => exact xd ((Kd.R_reads' HO_7.out).2.2)); (case side2 => exact (Kd.R_reads' HO_7.out).2.1); (case side3 => exact xd ((Kd.R_reads' HO_4.out).2.2)); (case side4 => exact (Kd.R_reads' HO_4.out).2.1); rintro e w' ⟨rfl, ⟨nd, rfl⟩⟩))
         go_meet
         case rel => exact ⟨_, (true), (by first | rfl | (simp; done) | (simp [*]; done)), H', ⟨by have := HJ7.out; first | omega | exact Nat.le_refl _⟩, ⟨xr HO_4.out⟩, ⟨xr HO_7.out⟩, ⟨xs HB.out⟩⟩
      case rest =>
       clear HC26
       try clear c1
       try clear c2
       try clear p2
       try clear c3
       try clear c3b0
       try clear c4
       try clear c12
       try clear c13
       try clear c15
       try clear c16
       try clear c18
       try clear c19
       try clear c21
       try clear c24
       try clear c31
       try clear c31b0
       try clear c33
       try clear p2
       obtain ⟨kq, x61_25, rfl, HA, HJ25, HO_4, HO_7, HB⟩ := hcut
       cases kq with
       | zero => exact absurd HA.out (by simp [laws_FnExactWetTanks.j1])
       | succ kj25 =>
        have H := HA.out
        clear HA
        simp only [laws_FnExactWetTanks.j1] at H
        by_cases c38 : x61_25 = true
        ·subst c38
         have H1 : (some false) = some true := by first | (rw [if_pos rfl] at H; exact H) | rfl
         clear H
         have H := H1
         clear H1
         exact absurd H (by simp)
        ·replace c38 := Bool.eq_false_iff.mpr c38
         subst c38
         have H1 : ((laws_markIntS.f kj25 t283 1).bind fun bt295 => ((laws_heldIntS.f kj25 bt295.2 1).bind fun t297 => (if t297 < 0 then (some false) else (if t297 = bt295.1 then ((laws_toTankS.f kj25 l0).bind fun t298 => ((impl_WetTanks.f kj25 t298).bind fun bt301 => ((laws_eqIntS.f kj25 bt301.1 t276).bind fun t305 => (if t305 = true then (laws_FnExactWetTanks.j2 kj25 bt295.2 bt295.1 (bt301.2 != t277)) else (laws_FnExactWetTanks.j2 kj25 bt295.2 bt295.1 true))))) else (some false))))) = some true := by first | (rw [if_neg (show ¬ (false = true) by decide)] at H; exact H) | rfl
         clear H
         have H := H1
         clear H1
         replace H := Option.bind_eq_some_iff.mp H
         obtain ⟨⟨t295, t296⟩, A390, H⟩ := H
         replace H : ((laws_heldIntS.f kj25 t296 1).bind fun t297 => (if t297 < 0 then (some false) else (if t297 = t295 then ((laws_toTankS.f kj25 l0).bind fun t298 => ((impl_WetTanks.f kj25 t298).bind fun bt301 => ((laws_eqIntS.f kj25 bt301.1 t276).bind fun t305 => (if t305 = true then (laws_FnExactWetTanks.j2 kj25 t296 t295 (bt301.2 != t277)) else (laws_FnExactWetTanks.j2 kj25 t296 t295 true))))) else (some false)))) = some true := H
         have A39 := Aside0.mk A390
         clear A390
         replace H := Option.bind_eq_some_iff.mp H
         obtain ⟨t297, A400, H⟩ := H
         replace H : (if t297 < 0 then (some false) else (if t297 = t295 then ((laws_toTankS.f kj25 l0).bind fun t298 => ((impl_WetTanks.f kj25 t298).bind fun bt301 => ((laws_eqIntS.f kj25 bt301.1 t276).bind fun t305 => (if t305 = true then (laws_FnExactWetTanks.j2 kj25 t296 t295 (bt301.2 != t277)) else (laws_FnExactWetTanks.j2 kj25 t296 t295 true))))) else (some false))) = some true := H
         have A40 := Aside0.mk A400
         clear A400
         by_cases c41 : t297 < 0
         ·rw [if_pos c41] at H
          have c41b0 : decide (t297 < 0) = true := decide_eq_true c41
          clear c41
          exact absurd H (by simp)
         ·rw [if_neg c41] at H
          have c41b0 : decide (t297 < 0) = false := decide_eq_false c41
          clear c41
          by_cases c42 : t297 = t295
          ·rw [if_pos c42] at H
           have c42b0 : (t297 == t295) = true := beq_iff_eq.mpr c42
           have c42b1 : (t297 != t295) = false := bne_eq_false_iff_eq.mpr c42
           clear c42
           replace H := Option.bind_eq_some_iff.mp H
           obtain ⟨t298, A430, H⟩ := H
           replace H : ((impl_WetTanks.f kj25 t298).bind fun bt301 => ((laws_eqIntS.f kj25 bt301.1 t276).bind fun t305 => (if t305 = true then (laws_FnExactWetTanks.j2 kj25 t296 t295 (bt301.2 != t277)) else (laws_FnExactWetTanks.j2 kj25 t296 t295 true)))) = some true := H
           have A43 := Aside0.mk A430
           clear A430
           replace H := Option.bind_eq_some_iff.mp H
           obtain ⟨⟨t301, t302⟩, A440, H⟩ := H
           replace H : ((laws_eqIntS.f kj25 t301 t276).bind fun t305 => (if t305 = true then (laws_FnExactWetTanks.j2 kj25 t296 t295 (t302 != t277)) else (laws_FnExactWetTanks.j2 kj25 t296 t295 true))) = some true := H
           have A44 := Aside0.mk A440
           clear A440
           have HC45 := Aside0.mk H
           clear H
           obtain ⟨Ao46, co46, eo46⟩ := Kd.R_slice HO_7.out
           subst eo46
           go_upto_region 25 with (first | ((with_reducible refine gate_callee (f := 42) rfl ?_); refine goesL_ (some 64) rfl rfl Try.func42 (by kernel_rfl) rfl #[.slice Ao46 t283.length co46, .int .i64 1] rfl (by (try simp only [List.map_toArray, List.map_cons, List.map_nil]); first | done | rfl | (simp only [List.length_drop, List.length_take]; rfl)) ?_; (with_reducible refine (laws_markIntS.calls kj25 (fun k_ => some k_ = (.slice Ao46 t283.length co46 : Value).ownBlock) (.slice Ao46 t283.length co46) t283 1 t295 t296 w _ ?side1 ?side2 A39.out).mono ?_); (case side1 => repeat (first | (with_reducible first | exact HB.out | apply below_alloc | apply pw_below_drewN | apply below_drew1) | exact HB.out)); (case side2 => exact Kd.R_tight rfl HO_7.out); rintro e w47 ⟨rfl, hy0, hb, hkp⟩; refine ⟨_, rfl, ?_⟩; replace HO_4 := Aside0.mk (Kd.R_mono (ok' := fun k_ => nS k_ Ao46 t283.length co46) (Kd.R_keptB (HO_4.out) hkp (fun k_ hk_ hs_ => (hk_) hs_)) (fun k_ hk_ => hk_.1)); replace HO_7 := Aside0.mk (Kd.R_reok rfl hy0 (fun k_ e_ => HO_7.out.1 k_ e_)); replace HB := Aside0.mk (hb); (try clear hb); (try clear hkp); (try clear hy0)) | ((with_reducible refine gate_callee (f := 43) rfl ?_); refine goesL_ (some 67) rfl rfl Try.func43 (by kernel_rfl) rfl #[.slice Ao46 t296.length co46, .int .i64 1] rfl (by (try simp only [List.map_toArray, List.map_cons, List.map_nil]); first | done | (rw [show t296.length = t283.length from (Kd.R_reads' HO_7.out).1.symm] <;> rfl) | rfl | (simp only [List.length_drop, List.length_take]; rfl)) ?_; (with_reducible refine (laws_heldIntS.calls kj25 _ _ t296 1 t297 _ ?side1 ?side2 A40.out).mono ?_); (case side1 => exact xd ((Kd.R_reads' HO_7.out).2.2)); (case side2 => rw [show t296.length = t283.length from (Kd.R_reads' HO_7.out).1.symm]; exact (Kd.R_reads' HO_7.out).2.1); rintro e w' ⟨rfl, ⟨nd, rfl⟩⟩; refine ⟨_, rfl, ?_⟩) | ((with_reducible refine gate_callee (f := 15) rfl ?_); refine goesL_ (some 75) rfl rfl Try.func15 (by kernel_rfl) rfl #[.slice A0 l0.length c0] rfl (by (try simp only [List.map_toArray, List.map_cons, List.map_nil]); first | done | rfl | (simp only [List.length_drop, List.length_take]; rfl)) ?_; (with_reducible refine (laws_toTankS.calls kj25 _ _ l0 t298 _ ?side1 ?side2 A43.out).mono ?_); (case side1 => repeat (first | exact (Kd.C_below HR0.out (xs HB.out)) | (with_reducible refine Kd.C_alloc ?_ _) | (with_reducible refine Kd.C_drewN ?_ _) | (with_reducible refine Kd.C_drew ?_))); (case side2 => exact HC0.out); rintro e w48 ⟨v299, rfl, ho0, hb⟩; refine ⟨_, rfl, ?_⟩; replace HO_4 := xq HO_4 hb; replace HO_7 := xq HO_7 hb; have HO300 := Aside0.mk (Kd.R_lower ho0 (below_size (xs HB.out))); replace HB := xp HB hb; (try clear hb); (try clear hb2); (try clear hk); (try clear hi); (try clear ho0); obtain ⟨Ao49, co49, eo49⟩ := Kd.R_slice HO300.out; subst eo49) | ((with_reducible refine gate_callee (f := 49) rfl ?_); refine goesL_ (some 76) rfl rfl Try.func49 (by kernel_rfl) rfl #[.slice Ao49 t298.length co49] rfl (by (try simp only [List.map_toArray, List.map_cons, List.map_nil]); first | done | rfl | (simp only [List.length_drop, List.length_take]; rfl)) ?_; (with_reducible refine (impl_WetTanks.calls kj25 _ _ t298 t301 t302 _ ?side1 ?side2 A44.out).mono ?_); (case side1 => exact xd ((Kd.R_reads' HO300.out).2.2)); (case side2 => exact (Kd.R_reads' HO300.out).2.1); rintro e w50 ⟨v303, rfl, ho0, hb⟩; refine ⟨_, rfl, ?_⟩; replace HO300 := xq HO300 hb; have HO304 := Aside0.mk (Kd.R_lower (Kd.R_new' (Kd.R_new' ho0 (Kd.R_lt (xr HO_4.out))) (Kd.R_lt (xr HO_7.out))) (below_size (xs HB.out))); replace HO_4 := Aside0.mk (Kd.R_elder' (xr HO_4.out) (Kd.R_base ho0) hb); replace HO_7 := Aside0.mk (Kd.R_elder' (xr HO_7.out) (Kd.R_base ho0) hb); replace HB := xp HB hb; (try clear hb); (try clear hb2); (try clear hk); (try clear hi); (try clear ho0)))
           (try simp only [Act.put, List.setIfInBounds_toArray, List.set_cons_zero, List.set_cons_succ])
           go_cut [87] (fun v87 wc => ∃ (kq : Nat) (x87_44 : Bool), v87 = .bool x87_44 ∧ Aside0 (laws_FnExactWetTanks.j2 kq t296 t295 x87_44 = some true) ∧ Aside0 (kq ≤ kj25) ∧ Aside0 (Kd.R (Kd.int .i64) 3 wc w.heap.size (fun _ => True) (.slice Ao46 t283.length co46) t296) ∧ Aside0 (Below w.heap.size w wc))
           case first =>
            have H := HC45.out
            clear HC45
            replace H := Option.bind_eq_some_iff.mp H
            obtain ⟨t305, A510, H⟩ := H
            replace H : (if t305 = true then (laws_FnExactWetTanks.j2 kj25 t296 t295 (t302 != t277)) else (laws_FnExactWetTanks.j2 kj25 t296 t295 true)) = some true := H
            have A51 := Aside0.mk A510
            clear A510
            by_cases c52 : t305 = true
            ·subst c52
             have H1 : (laws_FnExactWetTanks.j2 kj25 t296 t295 (t302 != t277)) = some true := by first | (rw [if_pos rfl] at H; exact H) | rfl
             clear H
             have H := H1
             clear H1
             have H' := Aside0.mk H
             clear H
             obtain ⟨Ao53, co53, eo53⟩ := Kd.R_slice HO304.out
             subst eo53
             obtain ⟨Ao54, co54, eo54⟩ := Kd.R_slice HO_4.out
             subst eo54
             go_wp2_with (first | ((with_reducible refine gate_callee (f := 41) rfl ?_); refine goesL_ (some 81) rfl rfl Try.func41 (by kernel_rfl) rfl #[.slice Ao53 t301.length co53, .slice Ao54 t276.length co54] rfl (by (try simp only [List.map_toArray, List.map_cons, List.map_nil]); first | done | rfl | (simp only [List.length_drop, List.length_take]; rfl)) ?_; (with_reducible refine (laws_eqIntS.calls kj25 _ _ t301 _ _ t276 true _ ?side1 ?side2 ?side3 ?side4 A51.out).mono ?_); (case side1 => exact xd ((Kd.R_reads' HO304.out).2.2)); (case side2 => exact (Kd.R_reads' HO304.out).2.1); (case side3 => exact xd ((Kd.R_reads' HO_4.out).2.2)); (case side4 => exact (Kd.R_reads' HO_4.out).2.1); rintro e w' ⟨rfl, ⟨nd, rfl⟩⟩; refine ⟨_, rfl, ?_⟩))
             go_meet
             case rel => exact ⟨_, ((t302 != t277)), (by first | rfl | (simp; done) | (simp [*]; done)), H', ⟨by have := HJ7.out; have := HJ25.out; first | omega | exact Nat.le_refl _⟩, ⟨xm HO_7 (fun _ hk => trivial)⟩, ⟨xs HB.out⟩⟩
            ·replace c52 := Bool.eq_false_iff.mpr c52
             subst c52
             have H1 : (laws_FnExactWetTanks.j2 kj25 t296 t295 true) = some true := by first | (rw [if_neg (show ¬ (false = true) by decide)] at H; exact H) | rfl
             clear H
             have H := H1
             clear H1
             have H' := Aside0.mk H
             clear H
             obtain ⟨Ao55, co55, eo55⟩ := Kd.R_slice HO304.out
             subst eo55
             obtain ⟨Ao56, co56, eo56⟩ := Kd.R_slice HO_4.out
             subst eo56
             go_wp2_with (first | ((with_reducible refine gate_callee (f := 41) rfl ?_); refine goesL_ (some 81) rfl rfl Try.func41 (by kernel_rfl) rfl #[.slice Ao55 t301.length co55, .slice Ao56 t276.length co56] rfl (by (try simp only [List.map_toArray, List.map_cons, List.map_nil]); first | done | rfl | (simp only [List.length_drop, List.length_take]; rfl)) ?_; (with_reducible refine (laws_eqIntS.calls kj25 _ _ t301 _ _ t276 false _ ?side1 ?side2 ?side3 ?side4 A51.out).mono ?_); (case side1 => exact xd ((Kd.R_reads' HO304.out).2.2)); (case side2 => exact (Kd.R_reads' HO304.out).2.1); (case side3 => exact xd ((Kd.R_reads' HO_4.out).2.2)); (case side4 => exact (Kd.R_reads' HO_4.out).2.1); rintro e w' ⟨rfl, ⟨nd, rfl⟩⟩; refine ⟨_, rfl, ?_⟩))
             go_meet
             case rel => exact ⟨_, (true), (by first | rfl | (simp; done) | (simp [*]; done)), H', ⟨by have := HJ7.out; have := HJ25.out; first | omega | exact Nat.le_refl _⟩, ⟨xm HO_7 (fun _ hk => trivial)⟩, ⟨xs HB.out⟩⟩
           case rest =>
            clear HC45
            try clear c1
            try clear c2
            try clear p2
            try clear c3
            try clear c3b0
            try clear c4
            try clear c5
            try clear c12
            try clear c13
            try clear c15
            try clear c16
            try clear c18
            try clear c19
            try clear c21
            try clear c24
            try clear c31
            try clear c31b0
            try clear c33
            try clear c38
            try clear c41
            try clear c41b0
            try clear c42
            try clear c42b0
            try clear c42b1
            try clear c43
            try clear c48
            try clear c49
            try clear c52
            try clear p2
            obtain ⟨kq, x87_44, rfl, HA, HJ44, HO_7, HB⟩ := hcut
            have hl7_44 := (Kd.R_reads' HO_7.out).1
            rw [hl7_44] at HO_7
            (try simp only [hl7_44])
            cases kq with
            | zero => exact absurd HA.out (by simp [laws_FnExactWetTanks.j2])
            | succ kj44 =>
             have H := HA.out
             clear HA
             simp only [laws_FnExactWetTanks.j2] at H
             by_cases c57 : x87_44 = true
             ·subst c57
              have H1 : (some false) = some true := by first | (rw [if_pos rfl] at H; exact H) | rfl
              clear H
              have H := H1
              clear H1
              exact absurd H (by simp)
             ·replace c57 := Bool.eq_false_iff.mpr c57
              subst c57
              have H1 : ((laws_heldIntS.f kj44 t296 1).bind fun t306 => (if t306 < 0 then (some false) else (if t306 = t295 then (some true) else (some false)))) = some true := by first | (rw [if_neg (show ¬ (false = true) by decide)] at H; exact H) | rfl
              clear H
              have H := H1
              clear H1
              replace H := Option.bind_eq_some_iff.mp H
              obtain ⟨t306, A580, H⟩ := H
              replace H : (if t306 < 0 then (some false) else (if t306 = t295 then (some true) else (some false))) = some true := H
              have A58 := Aside0.mk A580
              clear A580
              by_cases c59 : t306 < 0
              ·rw [if_pos c59] at H
               have c59b0 : decide (t306 < 0) = true := decide_eq_true c59
               clear c59
               exact absurd H (by simp)
              ·rw [if_neg c59] at H
               have c59b0 : decide (t306 < 0) = false := decide_eq_false c59
               clear c59
               by_cases c60 : t306 = t295
               ·rw [if_pos c60] at H
                have c60b0 : (t306 == t295) = true := beq_iff_eq.mpr c60
                have c60b1 : (t306 != t295) = false := bne_eq_false_iff_eq.mpr c60
                clear c60
                clear H
                go_wp2_with (first | ((with_reducible refine gate_callee (f := 43) rfl ?_); refine goesL_ (some 90) rfl rfl Try.func43 (by kernel_rfl) rfl #[.slice Ao46 t296.length co46, .int .i64 1] rfl (by (try simp only [List.map_toArray, List.map_cons, List.map_nil]); first | done | rfl | (simp only [List.length_drop, List.length_take]; rfl)) ?_; (with_reducible refine (laws_heldIntS.calls kj44 _ _ t296 1 t306 _ ?side1 ?side2 A58.out).mono ?_); (case side1 => exact xd ((Kd.R_reads' HO_7.out).2.2)); (case side2 => exact (Kd.R_reads' HO_7.out).2.1); rintro e w' ⟨rfl, ⟨nd, rfl⟩⟩; refine ⟨_, rfl, ?_⟩))
                go_ret
                exact ⟨by first | rfl | (simp [errW_none, errW_some] <;> rfl) | (simp [*, errW_none, errW_some] <;> rfl), by repeat (first | (with_reducible first | exact HB.out | apply below_alloc | apply pw_below_drewN | apply below_drew1) | exact HB.out)⟩
               ·rw [if_neg c60] at H
                have c60b0 : (t306 == t295) = false := beq_eq_false_iff_ne.mpr c60
                have c60b1 : (t306 != t295) = true := bne_iff_ne.mpr c60
                exact absurd H (by simp)
          ·rw [if_neg c42] at H
           have c42b0 : (t297 == t295) = false := beq_eq_false_iff_ne.mpr c42
           have c42b1 : (t297 != t295) = true := bne_iff_ne.mpr c42
           exact absurd H (by simp)
     ·replace c24 := Bool.eq_false_iff.mpr c24
      subst c24
      have H1 : (some false) = some true := by first | (rw [if_neg (show ¬ (false = true) by decide)] at H; exact H) | rfl
      clear H
      have H := H1
      clear H1
      exact absurd H (by simp)

end Go.Proofs.Ytedkbaadbnpkoaa.PFnExactWetTanks

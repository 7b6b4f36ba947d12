/- Lean functions of the Go functions that the law FnExactStatesAlong reaches, and the proofs that the calls come to what they say (made by program). -/
import Derived.Test.YtobkbpoamicjgaaAb
import Derived.Test.YtobkbpoamicjgaaPFnExactStatesAlongx0
import Derived.Test.YtobkbpoamicjgaaPFnExactStatesAlongx1
import Derived.Test.YtobkbpoamicjgaaPFnExactStatesAlongx5
import Derived.Test.YtobkbpoamicjgaaPFnExactStatesAlongx6
import Derived.Test.YtobkbpoamicjgaaPFnExactStatesAlongx7
namespace Go.Proofs.Ytobkbpoamicjgaa.PFnExactStatesAlong
open Go.RowKit Go.Proofs.YtobkbpoamicjgaaW.PrintWords Go.Proofs.YtobkbpoamicjgaaW.PrintLast Go.Proofs.YtobkbpoamicjgaaW.PrintMore Go.Proofs.Ytobkbpoamicjgaa.Ab
attribute [local go_sem] max2_int min2_int max_two min_two max_three min_three max_four min_four   -- for this text's walks alone
set_option linter.unusedVariables false
set_option linter.unusedSimpArgs false

/-! ### impl_StatesAlong: function 38 -/
def impl_StatesAlong.l0 : Nat → List (S26) → List (S41) → Int → Int → Option ((List (S26)) × Bool)
  | 0, _, _, _, _ => none
  | k + 1, x6, x16, x17, x18 => if x18 < x17 then (if 0 ≤ x18 then (if x18 < (x16.length : Int) then (if x18 < (x6.length : Int) then ((impl_Vessels_behind.f ((rd_T26 x6 x18).f0) ((rd_T26 x6 x18).f1) ((rd_T41 x16 x18).f0) ((rd_T41 x16 x18).f1)).bind fun bt257 => (if x6.length < 2932031007402 then (impl_StatesAlong.l0 k (x6 ++ [(⟨bt257.1, bt257.2⟩ : S26)]) x16 x17 (wrap64 (x18 + 1))) else (none))) else (none)) else (none)) else (none)) else (some (x6, true))
def impl_StatesAlong.f (k : Nat) (l0_0 : List Int) (l0_1 : List Int) (l1 : List (S41)) : Option ((List (S26)) × Bool) := (impl_areMoves.f k l0_0 l0_1 l1).bind fun t244 => (if t244 = true then ((impl_Vessels_own.f l0_0 l0_1).bind fun bt245 => (impl_StatesAlong.l0 k (([(⟨bt245.1, bt245.2⟩ : S26)] : List (S26))) l1 (l1.length : Int) 0)) else (some (([] : List (S26)), false)))
theorem impl_StatesAlong.mono_l : ∀ k, (∀ y0 y1 y2 y3, LeO (impl_StatesAlong.l0 k y0 y1 y2 y3) (impl_StatesAlong.l0 (k + 1) y0 y1 y2 y3))
 | 0 => fun _ _ _ _ r h => by simp [impl_StatesAlong.l0] at h
 | k + 1 => by
  have ih0 := impl_StatesAlong.mono_l k
  ·intro y0 y1 y2 y3
   unfold impl_StatesAlong.l0
   repeat' first
   | (with_reducible exact ih0 _ _ _ _)
   | (with_reducible exact impl_areMoves.mono _ _ _ _)
   | (with_reducible exact LeO.refl _)
   | (with_reducible exact LeO.none _)
   | (with_reducible refine LeO.ite ?_ ?_)
   | (with_reducible refine LeO.bind ?_ (fun _ => ?_))
   | exact ih0 _ _ _ _
   | exact impl_areMoves.mono _ _ _ _
   | exact LeO.none _
   | refine LeO.ite ?_ ?_
   | refine LeO.bind ?_ (fun _ => ?_)
theorem impl_StatesAlong.mono : ∀ a0 a1 a2 k, LeO (impl_StatesAlong.f k a0 a1 a2) (impl_StatesAlong.f (k + 1) a0 a1 a2) := by
 intro a0 a1 a2 k
 have ih0 := impl_StatesAlong.mono_l k
 unfold impl_StatesAlong.f
 repeat' first
   | (with_reducible exact ih0 _ _ _ _)
   | (with_reducible exact impl_areMoves.mono _ _ _ _)
   | (with_reducible exact LeO.refl _)
   | (with_reducible exact LeO.none _)
   | (with_reducible refine LeO.ite ?_ ?_)
   | (with_reducible refine LeO.bind ?_ (fun _ => ?_))
   | exact ih0 _ _ _ _
   | exact impl_areMoves.mono _ _ _ _
   | exact LeO.none _
   | refine LeO.ite ?_ ?_
   | refine LeO.bind ?_ (fun _ => ?_)
def impl_StatesAlong.T7 : Bool × List (List Nat × List Nat) := (true, [([], []), ([], []), ([], []), ([1, 2], [1, 2]), ([3], [3]), ([], []), ([4, 5], [4, 5]), ([6], [6]), ([0, 7, 6], [0, 7]), ([8, 8, 0, 1, 2, 3, 4, 5, 6, 7, 8], [0, 1, 8])])
def impl_StatesAlong.B7 : List Nat := [0, 0, 0, 6, 14, 0, 62, 126, 255, 511]
theorem impl_StatesAlong.tab7 : rtab .any (opsOf Try.f38 7) = impl_StatesAlong.T7 := by kernel_rfl
theorem impl_StatesAlong.bits7 : waitsOk impl_StatesAlong.T7.2 impl_StatesAlong.B7 = true := by kernel_rfl
set_option maxHeartbeats 8000000 in
set_option maxRecDepth 100000 in
theorem impl_StatesAlong.calls (k : Nat) (A0_0 : Option Addr) (c0_0 : Nat) (l0_0 : List Int) (A0_1 : Option Addr) (c0_1 : Nat) (l0_1 : List Int) (A1 : Option Addr) (c1 : Nat) (l1 : List (S41)) (r1 : List (S26)) (r2 : Bool) (w : World) (hr0_0 : Kd.C (Kd.int .i64) w A0_0 l0_0.length l0_0) (hc0_0 : l0_0.length ≤ c0_0) (hr0_1 : Kd.C (Kd.int .i64) w A0_1 l0_1.length l0_1) (hc0_1 : l0_1.length ≤ c0_1) (hr1 : Kd.C k41 w A1 l1.length l1) (hc1 : l1.length ≤ c1) (h : impl_StatesAlong.f k l0_0 l0_1 l1 = some (r1, r2)) :
  Calls Try.prog 38 #[.agg #[.slice A0_0 l0_0.length c0_0, .slice A0_1 l0_1.length c0_1], .slice A1 l1.length c1] w fun e w' => ∃ v0_ : Value, e = .returned (.tuple #[v0_, .bool r2]) ∧ Kd.S k26a 26 w' w.heap.size (fun k_ => (w.heap.size ≤ k_)) v0_ r1 ∧ Below w.heap.size w w' := by
 have hu26 := Try.underlying26
 have hu41 := Try.underlying41
 have HR0_0 := Aside0.mk hr0_0
 have HC0_0 := Aside0.mk hc0_0
 clear hr0_0 hc0_0
 have HR0_1 := Aside0.mk hr0_1
 have HC0_1 := Aside0.mk hc0_1
 clear hr0_1 hc0_1
 have HR1 := Aside0.mk hr1
 have HC1 := Aside0.mk hc1
 clear hr1 hc1
 have HB := Aside0.mk (Below.refl w.heap.size w)
 have H : ((impl_areMoves.f k l0_0 l0_1 l1).bind fun t244 => (if t244 = true then ((impl_Vessels_own.f l0_0 l0_1).bind fun bt245 => (impl_StatesAlong.l0 k (([(⟨bt245.1, bt245.2⟩ : S26)] : List (S26))) l1 (l1.length : Int) 0)) else (some (([] : List (S26)), false)))) = some (r1, r2) := h
 clear h
 replace H := Option.bind_eq_some_iff.mp H
 obtain ⟨t244, A30, H⟩ := H
 replace H : (if t244 = true then ((impl_Vessels_own.f l0_0 l0_1).bind fun bt245 => (impl_StatesAlong.l0 k (([(⟨bt245.1, bt245.2⟩ : S26)] : List (S26))) l1 (l1.length : Int) 0)) else (some (([] : List (S26)), false))) = some (r1, r2) := H
 have A3 := Aside0.mk A30
 clear A30
 by_cases c4 : t244 = true
 ·subst c4
  have H1 : ((impl_Vessels_own.f l0_0 l0_1).bind fun bt245 => (impl_StatesAlong.l0 k (([(⟨bt245.1, bt245.2⟩ : S26)] : List (S26))) l1 (l1.length : Int) 0)) = some (r1, r2) := by rw [if_pos rfl] at H; exact H
  clear H
  have H := H1
  clear H1
  replace H := Option.bind_eq_some_iff.mp H
  obtain ⟨⟨t245, t248⟩, A50, H⟩ := H
  replace H : (impl_StatesAlong.l0 k (([(⟨t245, t248⟩ : S26)] : List (S26))) l1 (l1.length : Int) 0) = some (r1, r2) := H
  have A5 := Aside0.mk A50
  clear A50
  obtain ⟨y251, hy251⟩ : ∃ y_ : List (S26), y_ = (([(⟨t245, t248⟩ : S26)] : List (S26))) := ⟨_, rfl⟩
  replace H : (impl_StatesAlong.l0 k y251 l1 (l1.length : Int) 0) = some (r1, r2) := by first | (rw [hy251]; with_reducible exact H) | (have H2_ := (Option.bind_some _ _).symm.trans H; rw [hy251]; with_reducible exact H2_) | (have H2_ := (Option.bind_some _ _).symm.trans H; with_reducible exact H2_) | with_reducible exact H | (rw [hy251]; exact H) | exact H
  have Ny251 := Aside0.mk hy251
  clear hy251
  have H' := Aside0.mk H
  clear H
  go_enter Try.func38, Try.ntmps38
  go_wp2_with (first | ((with_reducible refine gate_dst (N := 2) rfl ?_); refine box_event ?hg (N := 2) ?hd (cs := #[.slice A0_0 l0_0.length c0_0, .slice A0_1 l0_1.length c0_1]) (t := 26) ?hr ?_; (case hd => rfl); (case hg => rfl); (case hr => first | (go_simp; done) | (go_simp; rfl)); intro gb243 hg w6 hbox hb; have BK243 := Aside0.mk (hbox); have GW243 := xg HB hg; have GE243 := xg HB hg; replace HB := xp HB hb; clear hb hbox hg; have hcz7_0 : w6.cell? ⟨gb243, 0, none⟩ = some (.slice A0_0 l0_0.length c0_0) := (blk_cell BK243.out 0).trans rfl; have hcz7_1 : w6.cell? ⟨gb243, 1, none⟩ = some (.slice A0_1 l0_1.length c0_1) := (blk_cell BK243.out 1).trans rfl; have hfz7_0 := blk_frozen BK243.out 0; have hfz7_1 := blk_frozen BK243.out 1) | ((with_reducible refine gate_callee (f := 82) rfl ?_); refine goesL_ (some 11) rfl rfl Try.func82 (by kernel_rfl) rfl #[.agg #[.slice A0_0 l0_0.length c0_0, .slice A0_1 l0_1.length c0_1], .slice A1 l1.length c1] rfl (by (try simp only [List.map_toArray, List.map_cons, List.map_nil]); first | done | rfl | (simp only [List.length_drop, List.length_take]; rfl)) ?_; (with_reducible refine (impl_areMoves.calls k _ _ l0_0 _ _ l0_1 _ _ l1 true _ ?side1 ?side2 ?side3 ?side4 ?side5 ?side6 A3.out).mono ?_); (case side1 => exact xd ((Kd.C_below HR0_0.out HB.out))); (case side2 => exact HC0_0.out); (case side3 => exact xd ((Kd.C_below HR0_1.out HB.out))); (case side4 => exact HC0_1.out); (case side5 => exact xd ((Kd.C_below HR1.out HB.out))); (case side6 => exact HC1.out); rintro e w8 ⟨rfl, hb⟩; refine ⟨_, rfl, ?_⟩; replace BK243 := xk BK243 hb; replace HB := xp HB hb; (try clear hb); (try clear hb2); (try clear hk); (try clear hi); have hcz9_0 : w8.cell? ⟨gb243, 0, none⟩ = some (.slice A0_0 l0_0.length c0_0) := (blk_cell BK243.out 0).trans rfl; have hcz9_1 : w8.cell? ⟨gb243, 1, none⟩ = some (.slice A0_1 l0_1.length c0_1) := (blk_cell BK243.out 1).trans rfl; have hfz9_0 := blk_frozen BK243.out 0; have hfz9_1 := blk_frozen BK243.out 1) | ((with_reducible refine gate_callee (f := 65) rfl ?_); refine goesL_ (some 14) rfl rfl Try.func65 (by kernel_rfl) rfl #[.agg #[.slice A0_0 l0_0.length c0_0, .slice A0_1 l0_1.length c0_1]] rfl (by (try simp only [List.map_toArray, List.map_cons, List.map_nil]); first | done | rfl | (simp only [List.length_drop, List.length_take]; rfl)) ?_; (with_reducible refine (impl_Vessels_own.calls _ _ l0_0 _ _ l0_1 t245 t248 _ ?side1 ?side2 ?side3 ?side4 A5.out).mono ?_); (case side1 => exact xd ((Kd.C_below HR0_0.out HB.out))); (case side2 => exact HC0_0.out); (case side3 => exact xd ((Kd.C_below HR0_1.out HB.out))); (case side4 => exact HC0_1.out); rintro e w10 ⟨v246, v249, rfl, ho0, ho1, hb⟩; refine ⟨_, rfl, ?_⟩; have HO247 := Aside0.mk (Kd.R_lower (Kd.R_newM (M := fun k_ => (w.heap.size ≤ k_)) ho0 (below_size (xs HB.out)) (fun k_ h_ => h_)) (below_size (xs HB.out))); have HO250 := Aside0.mk (Kd.R_lower (Kd.R_newM (M := fun k_ => (w.heap.size ≤ k_)) ho1 (below_size (xs HB.out)) (fun k_ h_ => h_)) (below_size (xs HB.out))); replace BK243 := xk BK243 hb; replace HB := xp HB hb; (try clear hb); (try clear hb2); (try clear hk); (try clear hi); (try clear ho0); (try clear ho1); obtain ⟨Ao11, co11, eo11⟩ := Kd.R_slice HO247.out; subst eo11; obtain ⟨Ao12, co12, eo12⟩ := Kd.R_slice HO250.out; subst eo12) | ((with_reducible refine gate_dst (N := 15) rfl ?_); refine Kd.R_lit k26a (w0 := w) w.heap.size 26 ?hg (N := 15) ?hd (xs := ([(⟨t245, t248⟩ : S26)] : List (S26))) (inner := [.slice Ao11 t245.length co11, .slice Ao12 t248.length co12]) (ok := (fun k_ => (w.heap.size ≤ k_) ∧ k_ ≠ gb243)) (okp := (fun k_ => (w.heap.size ≤ k_) ∧ k_ ≠ gb243)) ?hr ?hp (fun _ hk => hk) ⟨below_size (xs HB.out), Kd.freshB (g := gb243) (o := .cells #[.slice A0_0 l0_0.length c0_0, .slice A0_1 l0_1.length c0_1] 26 (0, 0)) (xb BK243.out) _ (Nat.le_refl _)⟩ (xs HB.out) (below_size (xs HB.out)) (by simp) ?_; (case hd => rfl); (case hg => rfl); (case hr => first | (go_simp; done) | (go_simp; rfl)); (case hp => exact (Reps.c2 (k26a_mkM _ _ _ (⟨t245, t248⟩ : S26) (Kd.R_mono (Kd.R_types (HO247.out) BK243.out (by decide)) (fun k_ hk => ⟨⟨hk.1.1, hk.2⟩, hk.1.2⟩)) (Kd.R_mono (Kd.R_types (HO250.out) BK243.out (by decide)) (fun k_ hk => ⟨⟨hk.1.1, hk.2⟩, hk.1.2⟩))) (Reps.none _ _))); intro v252 w13 ho14 hb hg_ hnew_; clear hnew_; rw [← Ny251.out] at ho14; have HO253 := Aside0.mk (va_one (by rw [Ny251.out] at ho14; exact ho14)); rw [← Ny251.out] at HO253; replace BK243 := Aside0.mk (blk_grown BK243.out hg_ (by simp)); replace HB := Aside0.mk hb; clear HO247; clear HO250; clear hb ho14 hg_))
  go_loopg [6, 18] k (fun kq v6 v18 w' => ∃ (x6_1 : List (S26)) (x18_1 : Int), v18 = .int .i64 x18_1 ∧ Aside0 (impl_StatesAlong.l0 kq x6_1 l1 (l1.length : Int) x18_1 = some (r1, r2)) ∧ Aside0 (kq ≤ k) ∧ Aside0 (Kd.S k26a 26 w' w.heap.size (fun k_ => (w.heap.size ≤ k_) ∧ k_ ≠ gb243) v6 x6_1) ∧ Aside0 (w'.heap[gb243]? = some (.cells #[(.slice A0_0 l0_0.length c0_0), (.slice A0_1 l0_1.length c0_1)] 26 (0, 0))) ∧ Aside0 (Below w.heap.size w w'))
  case atStart => exact ⟨(y251), (0), (by first | rfl | (simp; done) | (simp [*]; done)), H', ⟨Nat.le_refl _⟩, ⟨by (with_reducible repeat (first | apply Kd.S_alloc | apply Kd.S_drewN | apply Kd.S_drew)); exact HO253.out⟩, ⟨xb BK243.out⟩, ⟨xs HB.out⟩⟩
  case round =>
   clear H'
   try clear c1
   try clear c2
   try clear p2
   try clear c3
   try clear c4
   try clear c6
   try clear c8
   try clear hcz7_0
   try clear hcz7_1
   try clear hcz9_0
   try clear hcz9_1
   try clear hfz7_0
   try clear hfz7_1
   try clear hfz9_0
   try clear hfz9_1
   obtain ⟨x6_1, x18_1, rfl, HA, HK1, HO_6, BK243, HB⟩ := hrel
   cases gk with
   | zero => exact absurd HA.out (by simp [impl_StatesAlong.l0])
   | succ k1 =>
    have H := HA.out
    clear HA
    simp only [impl_StatesAlong.l0] at H
    by_cases c15 : x18_1 < (l1.length : Int)
    ·rw [if_pos c15] at H
     have c15b0 : decide (x18_1 < (l1.length : Int)) = true := decide_eq_true c15
     clear c15
     by_cases c16 : 0 ≤ x18_1
     ·rw [if_pos c16] at H
      have c16b0 : decide (0 ≤ x18_1) = true := decide_eq_true c16
      clear c16
      by_cases c17 : x18_1 < (l1.length : Int)
      ·rw [if_pos c17] at H
       have c17b0 : decide (x18_1 < (l1.length : Int)) = true := decide_eq_true c17
       clear c17
       by_cases c18 : x18_1 < (x6_1.length : Int)
       ·rw [if_pos c18] at H
        have c18b0 : decide (x18_1 < (x6_1.length : Int)) = true := decide_eq_true c18
        clear c18
        replace H := Option.bind_eq_some_iff.mp H
        obtain ⟨⟨t257, t260⟩, A190, H⟩ := H
        replace H : (if x6_1.length < 2932031007402 then (impl_StatesAlong.l0 k1 (x6_1 ++ [(⟨t257, t260⟩ : S26)]) l1 (l1.length : Int) (wrap64 (x18_1 + 1))) else (none)) = some (r1, r2) := H
        have A19 := Aside0.mk A190
        clear A190
        by_cases c20 : x6_1.length < 2932031007402
        ·rw [if_pos c20] at H
         have LMc20 := Aside0.mk c20
         clear c20
         obtain ⟨y263, hy263⟩ : ∃ y_ : List (S26), y_ = (x6_1 ++ [(⟨t257, t260⟩ : S26)]) := ⟨_, rfl⟩
         replace H : (impl_StatesAlong.l0 k1 y263 l1 (l1.length : Int) (wrap64 (x18_1 + 1))) = some (r1, r2) := by first | (rw [hy263]; with_reducible exact H) | (have H2_ := (Option.bind_some _ _).symm.trans H; rw [hy263]; with_reducible exact H2_) | (have H2_ := (Option.bind_some _ _).symm.trans H; with_reducible exact H2_) | with_reducible exact H | (rw [hy263]; exact H) | exact H
         have Ny263 := Aside0.mk hy263
         clear hy263
         have H' := Aside0.mk H
         clear H
         have p254 : 0 ≤ (x18_1 : Int) := of_decide_eq_true (by first | (with_reducible assumption) | assumption)
         have q254 : x18_1 < (l1.length : Int) := of_decide_eq_true (by first | (with_reducible assumption) | assumption)
         obtain ⟨ad254, e254, hx254_0, hx254_1⟩ := at_T41 HR1.out x18_1 p254 q254
         cases e254
         replace hx254_0 := (HB.out.cell (World.block_lt_of_cell? w _ hx254_0)).trans hx254_0
         replace hx254_1 := (HB.out.cell (World.block_lt_of_cell? w _ hx254_1)).trans hx254_1
         replace p254 := eq_true p254
         replace q254 := eq_true q254
         try go_wp2_with (first | ((with_reducible refine gate_dst (N := 8) rfl ?_); refine box_event ?hg (N := 8) ?hd (cs := #[.int .i64 0, .int .i64 0]) (t := 41) ?hr ?_; (case hd => rfl); (case hg => rfl); (case hr => first | (go_simp; done) | (go_simp; rfl)); intro gb255 hg w21 hbox hb; replace HO_6 := Aside0.mk (Kd.S_below (Kd.S_elderB (by (with_reducible repeat (first | apply Kd.S_alloc | apply Kd.S_drewN | apply Kd.S_drew)); exact HO_6.out) gb255 (Nat.le_of_eq hg.symm)) hb); have BK255 := Aside0.mk (hbox); have GW255 := xg HB hg; have GE255 := xg HB hg; replace HB := xp HB hb; have NB243_255 := xl BK243 hg; have NB255_243 := xh BK243 hg; replace BK243 := xk BK243 hb; clear hb hbox hg; have hnb22 := NB255_243.out; have hnc22 := NB243_255.out; have hcz23_0 : w21.cell? ⟨gb255, 0, none⟩ = some (.int .i64 0) := (blk_cell BK255.out 0).trans rfl; have hcz23_1 : w21.cell? ⟨gb255, 1, none⟩ = some (.int .i64 0) := (blk_cell BK255.out 1).trans rfl; have hfz23_0 := blk_frozen BK255.out 0; have hfz23_1 := blk_frozen BK255.out 1))
         have n0_ : Aside0 (Kd.S k26a 26 ((w21.setCell ⟨gb255, 0, none⟩ (.int .i64 ((rd_T41 l1 x18_1).f0))).setCell ⟨gb255, 1, none⟩ (.int .i64 ((rd_T41 l1 x18_1).f1))) w.heap.size (fun k_ => (w.heap.size ≤ k_) ∧ k_ ≠ gb243 ∧ k_ ≠ gb255) u6 x6_1) := ⟨by (with_reducible repeat (first | apply Kd.S_alloc | apply Kd.S_drewN | apply Kd.S_drew)); exact Kd.S_mono (Kd.S_far (p := ⟨gb255, 1, none⟩) (Kd.S_far (p := ⟨gb255, 0, none⟩) (Kd.S_mono HO_6.out (fun k_ hk => (⟨hk, hk.2⟩ : _ ∧ k_ ≠ gb255))) (fun _ hk => hk.2) (.int .i64 ((rd_T41 l1 x18_1).f0))) (fun _ hk => hk.2) (.int .i64 ((rd_T41 l1 x18_1).f1))) (fun _ hk => ⟨hk.1.1.1, ⟨hk.1.1.2, hk.1.2⟩⟩)⟩
         have n1_ : Aside0 (((w21.setCell ⟨gb255, 0, none⟩ (.int .i64 ((rd_T41 l1 x18_1).f0))).setCell ⟨gb255, 1, none⟩ (.int .i64 ((rd_T41 l1 x18_1).f1))).heap[gb243]? = some (.cells #[.slice A0_0 l0_0.length c0_0, .slice A0_1 l0_1.length c0_1] 26 (0, 0))) := ⟨xff NB243_255.out NB243_255.out BK243.out⟩
         have n2_ : Aside0 (((w21.setCell ⟨gb255, 0, none⟩ (.int .i64 ((rd_T41 l1 x18_1).f0))).setCell ⟨gb255, 1, none⟩ (.int .i64 ((rd_T41 l1 x18_1).f1))).heap[gb255]? = some (.cells #[.int .i64 ((rd_T41 l1 x18_1).f0), .int .i64 ((rd_T41 l1 x18_1).f1)] 41 (0, 0))) := ⟨by (with_reducible repeat (first | refine blk_drewN ?_ _ | refine blk_drew ?_ | refine blk_alloc ?_ _)); refine blk_put (cs := #[.int .i64 ((rd_T41 l1 x18_1).f0), .int .i64 0]) ?_ 1 _ rfl; (with_reducible repeat (first | refine blk_drewN ?_ _ | refine blk_drew ?_ | refine blk_alloc ?_ _)); refine blk_put (cs := #[.int .i64 0, .int .i64 0]) ?_ 0 _ rfl; (with_reducible repeat (first | refine blk_drewN ?_ _ | refine blk_drew ?_ | refine blk_alloc ?_ _)); exact BK255.out⟩
         have n3_ : Aside0 (Below w.heap.size w ((w21.setCell ⟨gb255, 0, none⟩ (.int .i64 ((rd_T41 l1 x18_1).f0))).setCell ⟨gb255, 1, none⟩ (.int .i64 ((rd_T41 l1 x18_1).f1)))) := ⟨xs HB.out⟩
         (try clear HO_6)
         (try clear BK243)
         (try clear BK255)
         (try clear HB)
         generalize ((w21.setCell ⟨gb255, 0, none⟩ (.int .i64 ((rd_T41 l1 x18_1).f0))).setCell ⟨gb255, 1, none⟩ (.int .i64 ((rd_T41 l1 x18_1).f1))) = w24 at n0_ n1_ n2_ n3_ ⊢
         have HO_6 := n0_
         have BK243 := n1_
         have BK255 := n2_
         have HB := n3_
         clear n0_ n1_ n2_ n3_
         replace HO_6 := Aside0.mk (Kd.S_drew HO_6.out)
         replace BK243 := xv BK243
         replace BK255 := xv BK255
         replace HB := Aside0.mk (below_drew1 HB.out)
         obtain ⟨Ao26, co26, eo26⟩ := Kd.S_slice HO_6.out
         (first | subst eo26 | (injection eo26 with f1_ f2_ f3_; have f4_ := f1_.symm; have f5_ := f3_.symm; clear f1_ f2_ f3_; subst f4_; subst f5_))
         have p256 : 0 ≤ (x18_1 : Int) := of_decide_eq_true (by first | (with_reducible assumption) | assumption)
         have q256 : x18_1 < (x6_1.length : Int) := of_decide_eq_true (by first | (with_reducible assumption) | assumption)
         obtain ⟨ad256, A256_0, c256_0, A256_1, c256_1, e256, hx256_0, hx256_1, hl256_0, hi256_0, hl256_1, hi256_1⟩ := at_T26 (Kd.S_reads' HO_6.out).2.2 x18_1 p256 q256
         cases e256
         have HR256_0 := Aside0.mk hi256_0
         have HC256_0 := Aside0.mk hl256_0
         clear hi256_0 hl256_0
         have HR256_1 := Aside0.mk hi256_1
         have HC256_1 := Aside0.mk hl256_1
         clear hi256_1 hl256_1
         replace p256 := eq_true p256
         replace q256 := eq_true q256
         refine start_ (n := 10) (S := fun w' => w'.cell? ⟨gb255, 0, none⟩ = some (.int .i64 ((rd_T41 l1 x18_1).f0)) ∧ w'.cell? ⟨gb255, 1, none⟩ = some (.int .i64 ((rd_T41 l1 x18_1).f1)) ∧ w'.cell? (ad256.add ((x18_1).toNat * 2)) = some (.slice A256_0 ((rd_T26 x6_1 x18_1).f0).length c256_0) ∧ w'.cell? ⟨(ad256.add ((x18_1).toNat * 2)).block, (ad256.add ((x18_1).toNat * 2)).off + 1, none⟩ = some (.slice A256_1 ((rd_T26 x6_1 x18_1).f1).length c256_1)) (ds := [7, 8]) #[false, false, false, false, false, false, false, false, false, false] (by kernel_rfl) rfl rfl ⟨(blk_cell BK255.out 0).trans rfl, (blk_cell BK255.out 1).trans rfl, hx256_0, hx256_1⟩ (fun hHeld => ?_); refine with_tabW impl_StatesAlong.tab7 impl_StatesAlong.bits7 (fun HT_ HW_ => ?_)
         refine pure_ (i := 0) (N := some 23) (v := ?_) (a' := ?_) #[true, false, false, false, false, false, false, false, false, false] rfl rfl (any_of HT_.out (by kernel_rfl)) (fun _ _ _ h => h) (Or.inl ⟨by rfl, ?_⟩) ?_ ?_
         rotate_left
         ·intro w'
          go_simp
          with_reducible rfl
         rotate_left
         ·simp only [Act.put, List.setIfInBounds_toArray, List.set_cons_zero, List.set_cons_succ, i64_w, i32_w]
          rfl
         refine pure_ (i := 1) (N := some 24) (v := ?_) (a' := ?_) #[true, true, false, false, false, false, false, false, false, false] rfl rfl (any_of HT_.out (by kernel_rfl)) (fun _ _ _ h => h) (Or.inl ⟨by rfl, ?_⟩) ?_ ?_
         rotate_left
         ·intro w'
          go_simp
          with_reducible rfl
         rotate_left
         ·simp only [Act.put, List.setIfInBounds_toArray, List.set_cons_zero, List.set_cons_succ, i64_w, i32_w]
          rfl
         refine pure_ (i := 2) (N := some 25) (v := ?_) (a' := ?_) #[true, true, true, false, false, false, false, false, false, false] rfl rfl (any_of HT_.out (by kernel_rfl)) (fun _ _ _ h => h) (Or.inl ⟨by rfl, ?_⟩) ?_ ?_
         rotate_left
         ·intro w'
          go_simp
          with_reducible rfl
         rotate_left
         ·simp only [Act.put, List.setIfInBounds_toArray, List.set_cons_zero, List.set_cons_succ, i64_w, i32_w]
          rfl
         refine pure_ (i := 3) (N := some 26) (v := ?_) (a' := ?_) #[true, true, true, true, false, false, false, false, false, false] rfl rfl (any_of HT_.out (by kernel_rfl)) (fun _ _ _ h => h) (Or.inl ⟨by rfl, ?_⟩) ?_ ?_
         rotate_left
         ·intro w'
          go_simp
          with_reducible rfl
         rotate_left
         ·simp only [Act.put, List.setIfInBounds_toArray, List.set_cons_zero, List.set_cons_succ, i64_w, i32_w]
          rfl
         refine take_ (i := 4) (N := some 27) (v := ?_) (a' := ?_) #[true, true, true, true, true, false, false, false, false, false] rfl rfl (take_ofW HT_.out HW_.out (by kernel_rfl)) (fun _ _ _ h => h) (Or.inl ⟨by rfl, ?_⟩) hHeld ?_ ?_
         rotate_left
         ·rintro w' ⟨s0, s1, s2, s3⟩
          go_simp
          with_reducible rfl
         rotate_left
         ·simp only [Act.put, List.setIfInBounds_toArray, List.set_cons_zero, List.set_cons_succ, i64_w, i32_w]
          rfl
         refine take_ (i := 5) (N := some 28) (v := ?_) (a' := ?_) #[true, true, true, true, true, true, false, false, false, false] rfl rfl (take_ofW HT_.out HW_.out (by kernel_rfl)) (fun _ _ _ h => h) (Or.inl ⟨by rfl, ?_⟩) hHeld ?_ ?_
         rotate_left
         ·rintro w' ⟨s0, s1, s2, s3⟩
          go_simp
          with_reducible rfl
         rotate_left
         ·simp only [Act.put, List.setIfInBounds_toArray, List.set_cons_zero, List.set_cons_succ, i64_w, i32_w]
          rfl
         refine one_ (i := 6) (N := some 29) #[true, true, true, true, true, true, true, false, false, false] rfl rfl (one_of HT_.out (by kernel_rfl)) (by decide) (fun K hK => ?_)
         refine goes_ Try.func78 (by kernel_rfl) rfl #[.agg #[.slice A256_0 ((rd_T26 x6_1 x18_1).f0).length c256_0, .slice A256_1 ((rd_T26 x6_1 x18_1).f1).length c256_1], .agg #[.int .i64 ((rd_T41 l1 x18_1).f0), .int .i64 ((rd_T41 l1 x18_1).f1)]] (by rfl) rfl rfl (by (try simp only [List.map_toArray, List.map_cons, List.map_nil]); first | done | rfl | (simp only [List.length_drop, List.length_take]; rfl)) ?_
         with_reducible refine (impl_Vessels_behind.calls _ _ ((rd_T26 x6_1 x18_1).f0) _ _ ((rd_T26 x6_1 x18_1).f1) ((rd_T41 l1 x18_1).f0) ((rd_T41 l1 x18_1).f1) t257 t260 _ ?side1 ?side2 ?side3 ?side4 A19.out).mono ?_
         (case side1 => repeat (first | exact (by repeat (first | (with_reducible exact HR256_0.out) | (with_reducible refine Kd.C_alloc ?_ _) | (with_reducible refine Kd.C_drewN ?_ _) | (with_reducible refine Kd.C_drew ?_) | exact HR256_0.out)) | (with_reducible refine Kd.C_alloc ?_ _) | (with_reducible refine Kd.C_drewN ?_ _) | (with_reducible refine Kd.C_drew ?_)))
         (case side2 => exact HC256_0.out)
         (case side3 => repeat (first | exact (by repeat (first | (with_reducible exact HR256_1.out) | (with_reducible refine Kd.C_alloc ?_ _) | (with_reducible refine Kd.C_drewN ?_ _) | (with_reducible refine Kd.C_drew ?_) | exact HR256_1.out)) | (with_reducible refine Kd.C_alloc ?_ _) | (with_reducible refine Kd.C_drewN ?_ _) | (with_reducible refine Kd.C_drew ?_)))
         (case side4 => exact HC256_1.out)
         rintro e w27 ⟨v258, v261, rfl, ho0, ho1, hb⟩
         have HS2_ := (hb.cell (World.block_lt_of_cell? _ _ (hHeld.2.2.1))).trans (hHeld.2.2.1)
         have HS3_ := (hb.cell (World.block_lt_of_cell? _ _ (hHeld.2.2.2))).trans (hHeld.2.2.2)
         refine ⟨_, rfl, ?_⟩
         replace HO_6 := Aside0.mk (Kd.S_mono (Kd.S_told (Kd.S_told (Kd.S_old (by (with_reducible repeat (first | apply Kd.S_alloc | apply Kd.S_drewN | apply Kd.S_drew)); exact HO_6.out) hb) (Kd.R_base ho0)) (Kd.R_base ho1)) (fun _ h_ => h_.1))
         have HO259 := Aside0.mk (Kd.R_lower (Kd.R_newM (M := fun k_ => (w.heap.size ≤ k_)) ho0 (below_size (xs HB.out)) (fun k_ h_ => h_)) (below_size (xs HB.out)))
         have HO262 := Aside0.mk (Kd.R_lower (Kd.R_newM (M := fun k_ => (w.heap.size ≤ k_)) ho1 (below_size (xs HB.out)) (fun k_ h_ => h_)) (below_size (xs HB.out)))
         replace BK243 := xk BK243 hb
         replace BK255 := xk BK255 hb
         replace HR256_0 := Aside0.mk (Kd.C_below (by repeat (first | (with_reducible exact HR256_0.out) | (with_reducible refine Kd.C_alloc ?_ _) | (with_reducible refine Kd.C_drewN ?_ _) | (with_reducible refine Kd.C_drew ?_) | exact HR256_0.out)) hb)
         replace HR256_1 := Aside0.mk (Kd.C_below (by repeat (first | (with_reducible exact HR256_1.out) | (with_reducible refine Kd.C_alloc ?_ _) | (with_reducible refine Kd.C_drewN ?_ _) | (with_reducible refine Kd.C_drew ?_) | exact HR256_1.out)) hb)
         replace HB := xp HB hb
         (try clear hb)
         (try clear hb2)
         (try clear hk)
         (try clear hi)
         (try clear ho0)
         (try clear ho1)
         obtain ⟨Ao29, co29, eo29⟩ := Kd.R_slice HO259.out
         (first | subst eo29 | (injection eo29 with f1_ f2_ f3_; have f4_ := f1_.symm; have f5_ := f3_.symm; clear f1_ f2_ f3_; subst f4_; subst f5_))
         obtain ⟨Ao30, co30, eo30⟩ := Kd.R_slice HO262.out
         (first | subst eo30 | (injection eo30 with f1_ f2_ f3_; have f4_ := f1_.symm; have f5_ := f3_.symm; clear f1_ f2_ f3_; subst f4_; subst f5_))
         refine hK.out _ _ ⟨(blk_cell BK255.out 0).trans rfl, (blk_cell BK255.out 1).trans rfl, HS2_, HS3_⟩ (fun hHeld => ?_)
         clear hK K
         refine norm_ (a' := ?_) ?_ ?_
         rotate_left
         ·show Act.put _ (some 29) _ = _
          simp only [Act.put, List.setIfInBounds_toArray, List.set_cons_zero, List.set_cons_succ, i64_w, i32_w]
          rfl
         refine last_ (i := 7) (N := some 30) #[true, true, true, true, true, true, true, true, false, false] rfl rfl (one_of HT_.out (by kernel_rfl)) (by decide) (fun K hK => ?_)
         refine value_ (w1 := ?_) (v := ?_) (by rfl) rfl ?_ ?_
         rotate_left 2
         ·go_simp
          constructor
          ·rfl
          ·rfl
         refine hK.out _ _ ?_
         clear hK K
         refine norm_ (a' := ?_) ?_ ?_
         rotate_left
         ·show Act.put _ (some 30) _ = _
          simp only [Act.put, List.setIfInBounds_toArray, List.set_cons_zero, List.set_cons_succ, i64_w, i32_w]
          rfl
         refine last_ (i := 8) (N := some 31) #[true, true, true, true, true, true, true, true, true, false] rfl rfl (one_of HT_.out (by kernel_rfl)) (by decide) (fun K hK => ?_)
         refine Kd.S_append_step k26a (w0 := w) w.heap.size (by rfl) (.tmp 23) (.tmp 30) 54 26 (.agg #[(.slice none 0 0), (.slice none 0 0)]) 48 rfl Try.underlying54 info26 rfl (by decide) (by omega) (.slice (some ad256) x6_1.length co26) x6_1 (⟨t257, t260⟩ : S26) [.slice Ao29 t257.length co29, .slice Ao30 t260.length co30] (fun k_ => (w.heap.size ≤ k_) ∧ k_ ≠ gb243 ∧ k_ ≠ gb255) (fun k_ => (((w.heap.size ≤ k_) ∧ k_ ≠ gb243 ∧ k_ ≠ gb255) ∧ some k_ ≠ (.slice (some ad256) x6_1.length co26 : Value).ownBlock) ∧ (some k_ = (.slice Ao29 t257.length co29 : Value).ownBlock ∨ some k_ = (.slice Ao30 t260.length co30 : Value).ownBlock)) rfl rfl ?aP (fun _ hk => hk.1) ?aF ?aO ?aB ?aS ?aL ?_
         (case aP => exact k26a_mkM _ _ _ (⟨t257, t260⟩ : S26) (Kd.R_mono (ok' := fun k_ => (fun k_ => (((w.heap.size ≤ k_) ∧ k_ ≠ gb243 ∧ k_ ≠ gb255) ∧ some k_ ≠ (.slice (some ad256) x6_1.length co26 : Value).ownBlock) ∧ (some k_ = (.slice Ao29 t257.length co29 : Value).ownBlock ∨ some k_ = (.slice Ao30 t260.length co30 : Value).ownBlock)) k_ ∧ nS k_ Ao30 t260.length co30) (Kd.R_tight rfl (Kd.R_types (Kd.R_types (Kd.R_apart' (HO259.out) (Kd.S_typed HO_6.out) (by decide)) BK243.out (by decide)) BK255.out (by decide))) (fun k_ hk_ => by have h_ := (Kd.R_types (Kd.R_types (Kd.R_apart' (HO259.out) (Kd.S_typed HO_6.out) (by decide)) BK243.out (by decide)) BK255.out (by decide)).1 k_ hk_.symm; exact ⟨⟨⟨⟨h_.1.1.1.1, h_.1.2, h_.2⟩, h_.1.1.2⟩, Or.inl hk_⟩, h_.1.1.1.2⟩)) (Kd.R_mono (ok' := fun k_ => (fun k_ => (((w.heap.size ≤ k_) ∧ k_ ≠ gb243 ∧ k_ ≠ gb255) ∧ some k_ ≠ (.slice (some ad256) x6_1.length co26 : Value).ownBlock) ∧ (some k_ = (.slice Ao29 t257.length co29 : Value).ownBlock ∨ some k_ = (.slice Ao30 t260.length co30 : Value).ownBlock)) k_ ∧ nS k_ Ao29 t257.length co29) (Kd.R_tight rfl (Kd.R_types (Kd.R_types (Kd.R_apart' (HO262.out) (Kd.S_typed HO_6.out) (by decide)) BK243.out (by decide)) BK255.out (by decide))) (fun k_ hk_ => by have h_ := (Kd.R_types (Kd.R_types (Kd.R_apart' (HO262.out) (Kd.S_typed HO_6.out) (by decide)) BK243.out (by decide)) BK255.out (by decide)).1 k_ hk_.symm; exact ⟨⟨⟨⟨h_.1.1.1.1, h_.1.2, h_.2⟩, h_.1.1.2⟩, Or.inr hk_⟩, h_.1.1.1.2⟩)))
         (case aB => exact (xs HB.out))
         (case aF => exact (fun k_ hk => ⟨(Nat.le_trans (below_size (xs HB.out)) hk), Kd.freshB (g := gb243) (o := .cells #[.slice A0_0 l0_0.length c0_0, .slice A0_1 l0_1.length c0_1] 26 (0, 0)) (xb BK243.out) k_ hk, Kd.freshB (g := gb255) (o := .cells #[.int .i64 ((rd_T41 l1 x18_1).f0), .int .i64 ((rd_T41 l1 x18_1).f1)] 41 (0, 0)) (xb BK255.out) k_ hk⟩))
         (case aO => exact (by (with_reducible repeat (first | apply Kd.S_alloc | apply Kd.S_drewN | apply Kd.S_drew)); exact Kd.S_mono HO_6.out (fun _ hk => ⟨⟨hk.1.1.1, ⟨hk.1.1.2.1, hk.1.1.2.2⟩⟩, fun h2_ => h2_.2.elim hk.1.2 hk.2⟩)))
         (case aS => exact (below_size (xs HB.out)))
         (case aL => have := LMc20.out; omega)
         intro v264 w28 ho hb hg hat
         rw [← Ny263.out] at ho
         replace BK243 := Aside0.mk (blk_grown (g := gb243) (o := .cells #[.slice A0_0 l0_0.length c0_0, .slice A0_1 l0_1.length c0_1] 26 (0, 0)) (xb BK243.out) hg (Kd.S_away HO_6.out (fun _ hk => hk.1.1.2.1)))
         replace BK255 := Aside0.mk (blk_grown (g := gb255) (o := .cells #[.int .i64 ((rd_T41 l1 x18_1).f0), .int .i64 ((rd_T41 l1 x18_1).f1)] 41 (0, 0)) (xb BK255.out) hg (Kd.S_ne HO_6.out BK255.out (by decide)))
         replace HB := Aside0.mk (hb)
         have HO265 := Aside0.mk (ho)
         clear HO_6
         clear HO259
         clear HO262
         clear ho hb hg hat
         refine hK.out _ _ ?_
         clear hK K
         refine norm_ (a' := ?_) ?_ ?_
         rotate_left
         ·show Act.put _ (some 31) _ = _
          simp only [Act.put, List.setIfInBounds_toArray, List.set_cons_zero, List.set_cons_succ, i64_w, i32_w]
          rfl
         refine pure_ (i := 9) (N := some 6) (v := ?_) (a' := ?_) #[true, true, true, true, true, true, true, true, true, true] rfl rfl (any_of HT_.out (by kernel_rfl)) (fun _ _ _ h => h) (Or.inl ⟨by rfl, ?_⟩) ?_ ?_
         rotate_left
         ·intro w'
          go_simp
          with_reducible rfl
         rotate_left
         ·simp only [Act.put, List.setIfInBounds_toArray, List.set_cons_zero, List.set_cons_succ, i64_w, i32_w]
          rfl
         refine done_ (done_of HT_.out (by kernel_rfl)) ?_
         try go_wp2
         go_roundg k1
         case measure => have := HK1.out; omega
         case rel => exact ⟨(y263), (wrap64 (x18_1 + 1)), (by first | rfl | (simp; done) | (simp [*]; done)), H', ⟨by have := HK1.out; omega⟩, ⟨by (with_reducible repeat (first | apply Kd.S_alloc | apply Kd.S_drewN | apply Kd.S_drew)); exact Kd.S_mono HO265.out (fun _ hk => ⟨hk.1, hk.2.1⟩)⟩, ⟨xb BK243.out⟩, ⟨xs HB.out⟩⟩
        ·rw [if_neg c20] at H
         exact absurd H (by simp)
       ·rw [if_neg c18] at H
        exact absurd H (by simp)
      ·rw [if_neg c17] at H
       exact absurd H (by simp)
     ·rw [if_neg c16] at H
      exact absurd H (by simp)
    ·rw [if_neg c15] at H
     have c15b0 : decide (x18_1 < (l1.length : Int)) = false := decide_eq_false c15
     clear c15
     simp only [Option.some.injEq, Prod.mk.injEq] at H
     obtain ⟨rfl, rfl⟩ := H
     go_wp2
     go_ret2
     exact ⟨_, by first | rfl | (simp [errW_none, errW_some] <;> rfl) | (simp [*, errW_none, errW_some] <;> rfl), by (with_reducible repeat (first | apply Kd.S_alloc | apply Kd.S_drewN | apply Kd.S_drew)); exact Kd.S_mono HO_6.out (fun _ hk => hk.1), by repeat (first | (with_reducible first | exact HB.out | apply below_alloc | apply pw_below_drewN | apply below_drew1 | refine below_set ?_ GE243.out) | exact HB.out)⟩
 ·replace c4 := Bool.eq_false_iff.mpr c4
  subst c4
  have H1 : (some (([] : List (S26)), false)) = some (r1, r2) := by rw [if_neg (show ¬ (false = true) by decide)] at H; exact H
  clear H
  have H := H1
  clear H1
  simp only [Option.some.injEq, Prod.mk.injEq] at H
  obtain ⟨rfl, rfl⟩ := H
  go_enter Try.func38, Try.ntmps38
  go_wp2_with (first | ((with_reducible refine gate_dst (N := 2) rfl ?_); refine box_event ?hg (N := 2) ?hd (cs := #[.slice A0_0 l0_0.length c0_0, .slice A0_1 l0_1.length c0_1]) (t := 26) ?hr ?_; (case hd => rfl); (case hg => rfl); (case hr => first | (go_simp; done) | (go_simp; rfl)); intro gb243 hg w31 hbox hb; have BK243 := Aside0.mk (hbox); have GW243 := xg HB hg; have GE243 := xg HB hg; replace HB := xp HB hb; clear hb hbox hg; have hcz32_0 : w31.cell? ⟨gb243, 0, none⟩ = some (.slice A0_0 l0_0.length c0_0) := (blk_cell BK243.out 0).trans rfl; have hcz32_1 : w31.cell? ⟨gb243, 1, none⟩ = some (.slice A0_1 l0_1.length c0_1) := (blk_cell BK243.out 1).trans rfl; have hfz32_0 := blk_frozen BK243.out 0; have hfz32_1 := blk_frozen BK243.out 1) | ((with_reducible refine gate_callee (f := 82) rfl ?_); refine goesL_ (some 11) rfl rfl Try.func82 (by kernel_rfl) rfl #[.agg #[.slice A0_0 l0_0.length c0_0, .slice A0_1 l0_1.length c0_1], .slice A1 l1.length c1] rfl (by (try simp only [List.map_toArray, List.map_cons, List.map_nil]); first | done | rfl | (simp only [List.length_drop, List.length_take]; rfl)) ?_; (with_reducible refine (impl_areMoves.calls k _ _ l0_0 _ _ l0_1 _ _ l1 false _ ?side1 ?side2 ?side3 ?side4 ?side5 ?side6 A3.out).mono ?_); (case side1 => exact xd ((Kd.C_below HR0_0.out HB.out))); (case side2 => exact HC0_0.out); (case side3 => exact xd ((Kd.C_below HR0_1.out HB.out))); (case side4 => exact HC0_1.out); (case side5 => exact xd ((Kd.C_below HR1.out HB.out))); (case side6 => exact HC1.out); rintro e w33 ⟨rfl, hb⟩; refine ⟨_, rfl, ?_⟩; replace BK243 := xk BK243 hb; replace HB := xp HB hb; (try clear hb); (try clear hb2); (try clear hk); (try clear hi)))
  go_ret2
  exact ⟨_, by first | rfl | (simp [errW_none, errW_some] <;> rfl) | (simp [*, errW_none, errW_some] <;> rfl), by first | exact Kd.S_nil _ _ _ _ _ | exact Kd.S_nil _ _ _ _ _ | exact Kd.V_nil _ _ _ _ _ | exact Kd.Q_nil _ _ _ _ _ | exact Kd.R_nil _ _ _ _ _, by repeat (first | (with_reducible first | exact HB.out | apply below_alloc | apply pw_below_drewN | apply below_drew1 | refine below_set ?_ GE243.out) | exact HB.out)⟩



/-! ### laws_eqVesselsS: function 39 -/
def laws_eqVesselsS.l0 : Nat → List (S26) → List (S26) → Int → Option (Bool)
  | 0, _, _, _ => none
  | k + 1, x0, x1, x5 => if x5 < (x0.length : Int) then (if 0 ≤ x5 then (if x5 < (x1.length : Int) then ((laws_eqVessels.f k ((rd_T26 x0 x5).f0) ((rd_T26 x0 x5).f1) ((rd_T26 x1 x5).f0) ((rd_T26 x1 x5).f1)).bind fun t245 => (if t245 = true then (laws_eqVesselsS.l0 k x0 x1 (wrap64 (x5 + 1))) else (some false))) else (none)) else (none)) else (some true)
def laws_eqVesselsS.f (k : Nat) (l0 : List (S26)) (l1 : List (S26)) : Option (Bool) := if (l0.length : Int) = (l1.length : Int) then (laws_eqVesselsS.l0 k l0 l1 0) else (some false)
theorem laws_eqVesselsS.mono_l : ∀ k, (∀ y0 y1 y2, LeO (laws_eqVesselsS.l0 k y0 y1 y2) (laws_eqVesselsS.l0 (k + 1) y0 y1 y2))
 | 0 => fun _ _ _ r h => by simp [laws_eqVesselsS.l0] at h
 | k + 1 => by
  have ih0 := laws_eqVesselsS.mono_l k
  ·intro y0 y1 y2
   unfold laws_eqVesselsS.l0
   repeat' first
   | (with_reducible exact ih0 _ _ _)
   | (with_reducible exact laws_eqVessels.mono _ _ _ _ _)
   | (with_reducible exact LeO.refl _)
   | (with_reducible exact LeO.none _)
   | (with_reducible refine LeO.ite ?_ ?_)
   | (with_reducible refine LeO.bind ?_ (fun _ => ?_))
   | exact ih0 _ _ _
   | exact laws_eqVessels.mono _ _ _ _ _
   | exact LeO.none _
   | refine LeO.ite ?_ ?_
   | refine LeO.bind ?_ (fun _ => ?_)
theorem laws_eqVesselsS.mono : ∀ a0 a1 k, LeO (laws_eqVesselsS.f k a0 a1) (laws_eqVesselsS.f (k + 1) a0 a1) := by
 intro a0 a1 k
 have ih0 := laws_eqVesselsS.mono_l k
 unfold laws_eqVesselsS.f
 repeat' first
   | (with_reducible exact ih0 _ _ _)
   | (with_reducible exact laws_eqVessels.mono _ _ _ _ _)
   | (with_reducible exact LeO.refl _)
   | (with_reducible exact LeO.none _)
   | (with_reducible refine LeO.ite ?_ ?_)
   | (with_reducible refine LeO.bind ?_ (fun _ => ?_))
   | exact ih0 _ _ _
   | exact laws_eqVessels.mono _ _ _ _ _
   | exact LeO.none _
   | refine LeO.ite ?_ ?_
   | refine LeO.bind ?_ (fun _ => ?_)
def laws_eqVesselsS.T6 : Bool × List (List Nat × List Nat) := (true, [([], []), ([], []), ([0, 1], [0, 1]), ([2], [2]), ([], []), ([], []), ([4, 5], [4, 5]), ([6], [6]), ([3, 7], [3, 7]), ([8], [8])])
def laws_eqVesselsS.B6 : List Nat := [0, 0, 3, 7, 0, 0, 48, 112, 255, 511]
theorem laws_eqVesselsS.tab6 : rtab .any (opsOf Try.f39 6) = laws_eqVesselsS.T6 := by kernel_rfl
theorem laws_eqVesselsS.bits6 : waitsOk laws_eqVesselsS.T6.2 laws_eqVesselsS.B6 = true := by kernel_rfl
set_option maxHeartbeats 8000000 in
set_option maxRecDepth 100000 in
theorem laws_eqVesselsS.calls (k : Nat) (A0 : Option Addr) (c0 : Nat) (l0 : List (S26)) (A1 : Option Addr) (c1 : Nat) (l1 : List (S26)) (r : Bool) (w : World) (hr0 : Kd.C k26 w A0 l0.length l0) (hc0 : l0.length ≤ c0) (hr1 : Kd.C k26 w A1 l1.length l1) (hc1 : l1.length ≤ c1) (h : laws_eqVesselsS.f k l0 l1 = some r) :
  Calls Try.prog 39 #[.slice A0 l0.length c0, .slice A1 l1.length c1] w fun e w' => e = .returned (.bool r) ∧ Below w.heap.size w w' := by
 have hu26 := Try.underlying26
 have HR0 := Aside0.mk hr0
 have HC0 := Aside0.mk hc0
 clear hr0 hc0
 have HR1 := Aside0.mk hr1
 have HC1 := Aside0.mk hc1
 clear hr1 hc1
 have HB := Aside0.mk (Below.refl w.heap.size w)
 have H : (if (l0.length : Int) = (l1.length : Int) then (laws_eqVesselsS.l0 k l0 l1 0) else (some false)) = some r := h
 clear h
 by_cases c3 : (l0.length : Int) = (l1.length : Int)
 ·rw [if_pos c3] at H
  have c3b0 : ((l0.length : Int) == (l1.length : Int)) = true := beq_iff_eq.mpr c3
  have c3b1 : ((l0.length : Int) != (l1.length : Int)) = false := bne_eq_false_iff_eq.mpr c3
  have c3b2 : (l0.length == l1.length) = true := by first | simpa using c3 | (simp at c3 ⊢; omega)
  clear c3
  have H' := Aside0.mk H
  clear H
  go_enter Try.func39, Try.ntmps39
  go_wp2
  go_loopg [5] k (fun kq v5 w' => ∃ (x5_1 : Int), v5 = .int .i64 x5_1 ∧ Aside0 (laws_eqVesselsS.l0 kq l0 l1 x5_1 = some r) ∧ Aside0 (kq ≤ k) ∧ Aside0 (Below w.heap.size w w'))
  case atStart => exact ⟨(0), (by first | rfl | (simp; done) | (simp [*]; done)), H', ⟨Nat.le_refl _⟩, ⟨xs HB.out⟩⟩
  case round =>
   clear H'
   try clear c1
   try clear p2
   try clear c3
   try clear c3b0
   try clear c3b1
   try clear c3b2
   obtain ⟨x5_1, rfl, HA, HK1, HB⟩ := hrel
   cases gk with
   | zero => exact absurd HA.out (by simp [laws_eqVesselsS.l0])
   | succ k1 =>
    have H := HA.out
    clear HA
    simp only [laws_eqVesselsS.l0] at H
    by_cases c4 : x5_1 < (l0.length : Int)
    ·rw [if_pos c4] at H
     have c4b0 : decide (x5_1 < (l0.length : Int)) = true := decide_eq_true c4
     clear c4
     by_cases c5 : 0 ≤ x5_1
     ·rw [if_pos c5] at H
      have c5b0 : decide (0 ≤ x5_1) = true := decide_eq_true c5
      clear c5
      by_cases c6 : x5_1 < (l1.length : Int)
      ·rw [if_pos c6] at H
       have c6b0 : decide (x5_1 < (l1.length : Int)) = true := decide_eq_true c6
       clear c6
       replace H := Option.bind_eq_some_iff.mp H
       obtain ⟨t245, A70, H⟩ := H
       replace H : (if t245 = true then (laws_eqVesselsS.l0 k1 l0 l1 (wrap64 (x5_1 + 1))) else (some false)) = some r := H
       have A7 := Aside0.mk A70
       clear A70
       by_cases c8 : t245 = true
       ·subst c8
        have H1 : (laws_eqVesselsS.l0 k1 l0 l1 (wrap64 (x5_1 + 1))) = some r := by rw [if_pos rfl] at H; exact H
        clear H
        have H := H1
        clear H1
        have H' := Aside0.mk H
        clear H
        try go_wp2
        replace HB := Aside0.mk (below_drew1 HB.out)
        have p243 : 0 ≤ (x5_1 : Int) := of_decide_eq_true (by first | (with_reducible assumption) | assumption)
        have q243 : x5_1 < (l0.length : Int) := of_decide_eq_true (by first | (with_reducible assumption) | assumption)
        obtain ⟨ad243, A243_0, c243_0, A243_1, c243_1, e243, hx243_0, hx243_1, hl243_0, hi243_0, hl243_1, hi243_1⟩ := at_T26 HR0.out x5_1 p243 q243
        have hw243_1 := hx243_1
        have hw243_0 := hx243_0
        cases e243
        replace hx243_0 := (HB.out.cell (World.block_lt_of_cell? w _ hx243_0)).trans hx243_0
        replace hx243_1 := (HB.out.cell (World.block_lt_of_cell? w _ hx243_1)).trans hx243_1
        have HR243_0 := Aside0.mk hi243_0
        have HC243_0 := Aside0.mk hl243_0
        clear hi243_0 hl243_0
        have HR243_1 := Aside0.mk hi243_1
        have HC243_1 := Aside0.mk hl243_1
        clear hi243_1 hl243_1
        replace p243 := eq_true p243
        replace q243 := eq_true q243
        have p244 : 0 ≤ (x5_1 : Int) := of_decide_eq_true (by first | (with_reducible assumption) | assumption)
        have q244 : x5_1 < (l1.length : Int) := of_decide_eq_true (by first | (with_reducible assumption) | assumption)
        obtain ⟨ad244, A244_0, c244_0, A244_1, c244_1, e244, hx244_0, hx244_1, hl244_0, hi244_0, hl244_1, hi244_1⟩ := at_T26 HR1.out x5_1 p244 q244
        have hw244_1 := hx244_1
        have hw244_0 := hx244_0
        cases e244
        replace hx244_0 := (HB.out.cell (World.block_lt_of_cell? w _ hx244_0)).trans hx244_0
        replace hx244_1 := (HB.out.cell (World.block_lt_of_cell? w _ hx244_1)).trans hx244_1
        have HR244_0 := Aside0.mk hi244_0
        have HC244_0 := Aside0.mk hl244_0
        clear hi244_0 hl244_0
        have HR244_1 := Aside0.mk hi244_1
        have HC244_1 := Aside0.mk hl244_1
        clear hi244_1 hl244_1
        replace p244 := eq_true p244
        replace q244 := eq_true q244
        refine start_ (n := 10) (S := fun w' => w'.cell? (ad243.add ((x5_1).toNat * 2)) = some (.slice A243_0 ((rd_T26 l0 x5_1).f0).length c243_0) ∧ w'.cell? ⟨(ad243.add ((x5_1).toNat * 2)).block, (ad243.add ((x5_1).toNat * 2)).off + 1, none⟩ = some (.slice A243_1 ((rd_T26 l0 x5_1).f1).length c243_1) ∧ w'.cell? (ad244.add ((x5_1).toNat * 2)) = some (.slice A244_0 ((rd_T26 l1 x5_1).f0).length c244_0) ∧ w'.cell? ⟨(ad244.add ((x5_1).toNat * 2)).block, (ad244.add ((x5_1).toNat * 2)).off + 1, none⟩ = some (.slice A244_1 ((rd_T26 l1 x5_1).f1).length c244_1)) (ds := []) #[false, false, false, false, false, false, false, false, false, false] (by kernel_rfl) rfl rfl ⟨((HB.out.cell (World.block_lt_of_cell? w _ hw243_0)).trans hw243_0), ((HB.out.cell (World.block_lt_of_cell? w _ hw243_1)).trans hw243_1), ((HB.out.cell (World.block_lt_of_cell? w _ hw244_0)).trans hw244_0), ((HB.out.cell (World.block_lt_of_cell? w _ hw244_1)).trans hw244_1)⟩ (fun hHeld => ?_); refine with_tabW laws_eqVesselsS.tab6 laws_eqVesselsS.bits6 (fun HT_ HW_ => ?_)
        generalize wr.drew = w9 at HB HR243_0 HR243_1 HR244_0 HR244_1 hx243_0 hx243_1 hx244_0 hx244_1 hHeld ⊢
        refine pure_ (i := 0) (N := some 17) (v := ?_) (a' := ?_) #[true, false, false, false, false, false, false, false, false, false] rfl rfl (any_of HT_.out (by kernel_rfl)) (fun _ _ _ h => h) (Or.inl ⟨by rfl, ?_⟩) ?_ ?_
        rotate_left
        ·intro w'
         go_simp
         with_reducible rfl
        rotate_left
        ·simp only [Act.put, List.setIfInBounds_toArray, List.set_cons_zero, List.set_cons_succ, i64_w, i32_w]
         rfl
        refine pure_ (i := 1) (N := some 18) (v := ?_) (a' := ?_) #[true, true, false, false, false, false, false, false, false, false] rfl rfl (any_of HT_.out (by kernel_rfl)) (fun _ _ _ h => h) (Or.inl ⟨by rfl, ?_⟩) ?_ ?_
        rotate_left
        ·intro w'
         go_simp
         with_reducible rfl
        rotate_left
        ·simp only [Act.put, List.setIfInBounds_toArray, List.set_cons_zero, List.set_cons_succ, i64_w, i32_w]
         rfl
        refine pure_ (i := 2) (N := some 19) (v := ?_) (a' := ?_) #[true, true, true, false, false, false, false, false, false, false] rfl rfl (any_of HT_.out (by kernel_rfl)) (fun _ _ _ h => h) (Or.inl ⟨by rfl, ?_⟩) ?_ ?_
        rotate_left
        ·intro w'
         go_simp
         with_reducible rfl
        rotate_left
        ·simp only [Act.put, List.setIfInBounds_toArray, List.set_cons_zero, List.set_cons_succ, i64_w, i32_w]
         rfl
        refine pure_ (i := 4) (N := some 21) (v := ?_) (a' := ?_) #[true, true, true, false, true, false, false, false, false, false] rfl rfl (any_of HT_.out (by kernel_rfl)) (fun _ _ _ h => h) (Or.inl ⟨by rfl, ?_⟩) ?_ ?_
        rotate_left
        ·intro w'
         go_simp
         with_reducible rfl
        rotate_left
        ·simp only [Act.put, List.setIfInBounds_toArray, List.set_cons_zero, List.set_cons_succ, i64_w, i32_w]
         rfl
        refine pure_ (i := 5) (N := some 22) (v := ?_) (a' := ?_) #[true, true, true, false, true, true, false, false, false, false] rfl rfl (any_of HT_.out (by kernel_rfl)) (fun _ _ _ h => h) (Or.inl ⟨by rfl, ?_⟩) ?_ ?_
        rotate_left
        ·intro w'
         go_simp
         with_reducible rfl
        rotate_left
        ·simp only [Act.put, List.setIfInBounds_toArray, List.set_cons_zero, List.set_cons_succ, i64_w, i32_w]
         rfl
        refine pure_ (i := 6) (N := some 23) (v := ?_) (a' := ?_) #[true, true, true, false, true, true, true, false, false, false] rfl rfl (any_of HT_.out (by kernel_rfl)) (fun _ _ _ h => h) (Or.inl ⟨by rfl, ?_⟩) ?_ ?_
        rotate_left
        ·intro w'
         go_simp
         with_reducible rfl
        rotate_left
        ·simp only [Act.put, List.setIfInBounds_toArray, List.set_cons_zero, List.set_cons_succ, i64_w, i32_w]
         rfl
        refine take_ (i := 3) (N := some 20) (v := ?_) (a' := ?_) #[true, true, true, true, true, true, true, false, false, false] rfl rfl (take_ofW HT_.out HW_.out (by kernel_rfl)) (fun _ _ _ h => h) (Or.inl ⟨by rfl, ?_⟩) hHeld ?_ ?_
        rotate_left
        ·rintro w' ⟨s0, s1, s2, s3⟩
         go_simp
         with_reducible rfl
        rotate_left
        ·simp only [Act.put, List.setIfInBounds_toArray, List.set_cons_zero, List.set_cons_succ, i64_w, i32_w]
         rfl
        refine take_ (i := 7) (N := some 24) (v := ?_) (a' := ?_) #[true, true, true, true, true, true, true, true, false, false] rfl rfl (take_ofW HT_.out HW_.out (by kernel_rfl)) (fun _ _ _ h => h) (Or.inl ⟨by rfl, ?_⟩) hHeld ?_ ?_
        rotate_left
        ·rintro w' ⟨s0, s1, s2, s3⟩
         go_simp
         with_reducible rfl
        rotate_left
        ·simp only [Act.put, List.setIfInBounds_toArray, List.set_cons_zero, List.set_cons_succ, i64_w, i32_w]
         rfl
        refine one_ (i := 8) (N := some 25) #[true, true, true, true, true, true, true, true, true, false] rfl rfl (one_of HT_.out (by kernel_rfl)) (by decide) (fun K hK => ?_)
        refine goes_ Try.func19 (by kernel_rfl) rfl #[.agg #[.slice A243_0 ((rd_T26 l0 x5_1).f0).length c243_0, .slice A243_1 ((rd_T26 l0 x5_1).f1).length c243_1], .agg #[.slice A244_0 ((rd_T26 l1 x5_1).f0).length c244_0, .slice A244_1 ((rd_T26 l1 x5_1).f1).length c244_1]] (by rfl) rfl rfl (by (try simp only [List.map_toArray, List.map_cons, List.map_nil]); first | done | rfl | (simp only [List.length_drop, List.length_take]; rfl)) ?_
        with_reducible refine (laws_eqVessels.calls k1 _ _ ((rd_T26 l0 x5_1).f0) _ _ ((rd_T26 l0 x5_1).f1) _ _ ((rd_T26 l1 x5_1).f0) _ _ ((rd_T26 l1 x5_1).f1) true _ ?side1 ?side2 ?side3 ?side4 ?side5 ?side6 ?side7 ?side8 A7.out).mono ?_
        (case side1 => exact xd ((Kd.C_below HR243_0.out HB.out)))
        (case side2 => exact HC243_0.out)
        (case side3 => exact xd ((Kd.C_below HR243_1.out HB.out)))
        (case side4 => exact HC243_1.out)
        (case side5 => exact xd ((Kd.C_below HR244_0.out HB.out)))
        (case side6 => exact HC244_0.out)
        (case side7 => exact xd ((Kd.C_below HR244_1.out HB.out)))
        (case side8 => exact HC244_1.out)
        rintro e w10 ⟨rfl, hb⟩
        refine ⟨_, rfl, ?_⟩
        replace HB := xp HB hb
        (try clear hb)
        (try clear hb2)
        (try clear hk)
        (try clear hi)
        refine hK.out _ _ ⟨((HB.out.cell (World.block_lt_of_cell? w _ hw243_0)).trans hw243_0), ((HB.out.cell (World.block_lt_of_cell? w _ hw243_1)).trans hw243_1), ((HB.out.cell (World.block_lt_of_cell? w _ hw244_0)).trans hw244_0), ((HB.out.cell (World.block_lt_of_cell? w _ hw244_1)).trans hw244_1)⟩ (fun hHeld => ?_)
        clear hK K
        refine norm_ (a' := ?_) ?_ ?_
        rotate_left
        ·show Act.put _ (some 25) _ = _
         simp only [Act.put, List.setIfInBounds_toArray, List.set_cons_zero, List.set_cons_succ, i64_w, i32_w]
         rfl
        refine pure_ (i := 9) (N := some 26) (v := ?_) (a' := ?_) #[true, true, true, true, true, true, true, true, true, true] rfl rfl (any_of HT_.out (by kernel_rfl)) (fun _ _ _ h => h) (Or.inl ⟨by rfl, ?_⟩) ?_ ?_
        rotate_left
        ·intro w'
         go_simp
         with_reducible rfl
        rotate_left
        ·simp only [Act.put, List.setIfInBounds_toArray, List.set_cons_zero, List.set_cons_succ, i64_w, i32_w]
         rfl
        refine done_ (done_of HT_.out (by kernel_rfl)) ?_
        try go_wp2
        go_roundg k1
        case measure => have := HK1.out; omega
        case rel => exact ⟨(wrap64 (x5_1 + 1)), (by first | rfl | (simp; done) | (simp [*]; done)), H', ⟨by have := HK1.out; omega⟩, ⟨xs HB.out⟩⟩
       ·replace c8 := Bool.eq_false_iff.mpr c8
        subst c8
        have H1 : (some false) = some r := by rw [if_neg (show ¬ (false = true) by decide)] at H; exact H
        clear H
        have H := H1
        clear H1
        obtain rfl := Option.some.inj H
        try go_wp2
        replace HB := Aside0.mk (below_drew1 HB.out)
        have p243 : 0 ≤ (x5_1 : Int) := of_decide_eq_true (by first | (with_reducible assumption) | assumption)
        have q243 : x5_1 < (l0.length : Int) := of_decide_eq_true (by first | (with_reducible assumption) | assumption)
        obtain ⟨ad243, A243_0, c243_0, A243_1, c243_1, e243, hx243_0, hx243_1, hl243_0, hi243_0, hl243_1, hi243_1⟩ := at_T26 HR0.out x5_1 p243 q243
        have hw243_1 := hx243_1
        have hw243_0 := hx243_0
        cases e243
        replace hx243_0 := (HB.out.cell (World.block_lt_of_cell? w _ hx243_0)).trans hx243_0
        replace hx243_1 := (HB.out.cell (World.block_lt_of_cell? w _ hx243_1)).trans hx243_1
        have HR243_0 := Aside0.mk hi243_0
        have HC243_0 := Aside0.mk hl243_0
        clear hi243_0 hl243_0
        have HR243_1 := Aside0.mk hi243_1
        have HC243_1 := Aside0.mk hl243_1
        clear hi243_1 hl243_1
        replace p243 := eq_true p243
        replace q243 := eq_true q243
        have p244 : 0 ≤ (x5_1 : Int) := of_decide_eq_true (by first | (with_reducible assumption) | assumption)
        have q244 : x5_1 < (l1.length : Int) := of_decide_eq_true (by first | (with_reducible assumption) | assumption)
        obtain ⟨ad244, A244_0, c244_0, A244_1, c244_1, e244, hx244_0, hx244_1, hl244_0, hi244_0, hl244_1, hi244_1⟩ := at_T26 HR1.out x5_1 p244 q244
        have hw244_1 := hx244_1
        have hw244_0 := hx244_0
        cases e244
        replace hx244_0 := (HB.out.cell (World.block_lt_of_cell? w _ hx244_0)).trans hx244_0
        replace hx244_1 := (HB.out.cell (World.block_lt_of_cell? w _ hx244_1)).trans hx244_1
        have HR244_0 := Aside0.mk hi244_0
        have HC244_0 := Aside0.mk hl244_0
        clear hi244_0 hl244_0
        have HR244_1 := Aside0.mk hi244_1
        have HC244_1 := Aside0.mk hl244_1
        clear hi244_1 hl244_1
        replace p244 := eq_true p244
        replace q244 := eq_true q244
        refine start_ (n := 10) (S := fun w' => w'.cell? (ad243.add ((x5_1).toNat * 2)) = some (.slice A243_0 ((rd_T26 l0 x5_1).f0).length c243_0) ∧ w'.cell? ⟨(ad243.add ((x5_1).toNat * 2)).block, (ad243.add ((x5_1).toNat * 2)).off + 1, none⟩ = some (.slice A243_1 ((rd_T26 l0 x5_1).f1).length c243_1) ∧ w'.cell? (ad244.add ((x5_1).toNat * 2)) = some (.slice A244_0 ((rd_T26 l1 x5_1).f0).length c244_0) ∧ w'.cell? ⟨(ad244.add ((x5_1).toNat * 2)).block, (ad244.add ((x5_1).toNat * 2)).off + 1, none⟩ = some (.slice A244_1 ((rd_T26 l1 x5_1).f1).length c244_1)) (ds := []) #[false, false, false, false, false, false, false, false, false, false] (by kernel_rfl) rfl rfl ⟨((HB.out.cell (World.block_lt_of_cell? w _ hw243_0)).trans hw243_0), ((HB.out.cell (World.block_lt_of_cell? w _ hw243_1)).trans hw243_1), ((HB.out.cell (World.block_lt_of_cell? w _ hw244_0)).trans hw244_0), ((HB.out.cell (World.block_lt_of_cell? w _ hw244_1)).trans hw244_1)⟩ (fun hHeld => ?_); refine with_tabW laws_eqVesselsS.tab6 laws_eqVesselsS.bits6 (fun HT_ HW_ => ?_)
        generalize wr.drew = w11 at HB HR243_0 HR243_1 HR244_0 HR244_1 hx243_0 hx243_1 hx244_0 hx244_1 hHeld ⊢
        refine pure_ (i := 0) (N := some 17) (v := ?_) (a' := ?_) #[true, false, false, false, false, false, false, false, false, false] rfl rfl (any_of HT_.out (by kernel_rfl)) (fun _ _ _ h => h) (Or.inl ⟨by rfl, ?_⟩) ?_ ?_
        rotate_left
        ·intro w'
         go_simp
         with_reducible rfl
        rotate_left
        ·simp only [Act.put, List.setIfInBounds_toArray, List.set_cons_zero, List.set_cons_succ, i64_w, i32_w]
         rfl
        refine pure_ (i := 1) (N := some 18) (v := ?_) (a' := ?_) #[true, true, false, false, false, false, false, false, false, false] rfl rfl (any_of HT_.out (by kernel_rfl)) (fun _ _ _ h => h) (Or.inl ⟨by rfl, ?_⟩) ?_ ?_
        rotate_left
        ·intro w'
         go_simp
         with_reducible rfl
        rotate_left
        ·simp only [Act.put, List.setIfInBounds_toArray, List.set_cons_zero, List.set_cons_succ, i64_w, i32_w]
         rfl
        refine pure_ (i := 2) (N := some 19) (v := ?_) (a' := ?_) #[true, true, true, false, false, false, false, false, false, false] rfl rfl (any_of HT_.out (by kernel_rfl)) (fun _ _ _ h => h) (Or.inl ⟨by rfl, ?_⟩) ?_ ?_
        rotate_left
        ·intro w'
         go_simp
         with_reducible rfl
        rotate_left
        ·simp only [Act.put, List.setIfInBounds_toArray, List.set_cons_zero, List.set_cons_succ, i64_w, i32_w]
         rfl
        refine pure_ (i := 4) (N := some 21) (v := ?_) (a' := ?_) #[true, true, true, false, true, false, false, false, false, false] rfl rfl (any_of HT_.out (by kernel_rfl)) (fun _ _ _ h => h) (Or.inl ⟨by rfl, ?_⟩) ?_ ?_
        rotate_left
        ·intro w'
         go_simp
         with_reducible rfl
        rotate_left
        ·simp only [Act.put, List.setIfInBounds_toArray, List.set_cons_zero, List.set_cons_succ, i64_w, i32_w]
         rfl
        refine pure_ (i := 5) (N := some 22) (v := ?_) (a' := ?_) #[true, true, true, false, true, true, false, false, false, false] rfl rfl (any_of HT_.out (by kernel_rfl)) (fun _ _ _ h => h) (Or.inl ⟨by rfl, ?_⟩) ?_ ?_
        rotate_left
        ·intro w'
         go_simp
         with_reducible rfl
        rotate_left
        ·simp only [Act.put, List.setIfInBounds_toArray, List.set_cons_zero, List.set_cons_succ, i64_w, i32_w]
         rfl
        refine pure_ (i := 6) (N := some 23) (v := ?_) (a' := ?_) #[true, true, true, false, true, true, true, false, false, false] rfl rfl (any_of HT_.out (by kernel_rfl)) (fun _ _ _ h => h) (Or.inl ⟨by rfl, ?_⟩) ?_ ?_
        rotate_left
        ·intro w'
         go_simp
         with_reducible rfl
        rotate_left
        ·simp only [Act.put, List.setIfInBounds_toArray, List.set_cons_zero, List.set_cons_succ, i64_w, i32_w]
         rfl
        refine take_ (i := 3) (N := some 20) (v := ?_) (a' := ?_) #[true, true, true, true, true, true, true, false, false, false] rfl rfl (take_ofW HT_.out HW_.out (by kernel_rfl)) (fun _ _ _ h => h) (Or.inl ⟨by rfl, ?_⟩) hHeld ?_ ?_
        rotate_left
        ·rintro w' ⟨s0, s1, s2, s3⟩
         go_simp
         with_reducible rfl
        rotate_left
        ·simp only [Act.put, List.setIfInBounds_toArray, List.set_cons_zero, List.set_cons_succ, i64_w, i32_w]
         rfl
        refine take_ (i := 7) (N := some 24) (v := ?_) (a' := ?_) #[true, true, true, true, true, true, true, true, false, false] rfl rfl (take_ofW HT_.out HW_.out (by kernel_rfl)) (fun _ _ _ h => h) (Or.inl ⟨by rfl, ?_⟩) hHeld ?_ ?_
        rotate_left
        ·rintro w' ⟨s0, s1, s2, s3⟩
         go_simp
         with_reducible rfl
        rotate_left
        ·simp only [Act.put, List.setIfInBounds_toArray, List.set_cons_zero, List.set_cons_succ, i64_w, i32_w]
         rfl
        refine one_ (i := 8) (N := some 25) #[true, true, true, true, true, true, true, true, true, false] rfl rfl (one_of HT_.out (by kernel_rfl)) (by decide) (fun K hK => ?_)
        refine goes_ Try.func19 (by kernel_rfl) rfl #[.agg #[.slice A243_0 ((rd_T26 l0 x5_1).f0).length c243_0, .slice A243_1 ((rd_T26 l0 x5_1).f1).length c243_1], .agg #[.slice A244_0 ((rd_T26 l1 x5_1).f0).length c244_0, .slice A244_1 ((rd_T26 l1 x5_1).f1).length c244_1]] (by rfl) rfl rfl (by (try simp only [List.map_toArray, List.map_cons, List.map_nil]); first | done | rfl | (simp only [List.length_drop, List.length_take]; rfl)) ?_
        with_reducible refine (laws_eqVessels.calls k1 _ _ ((rd_T26 l0 x5_1).f0) _ _ ((rd_T26 l0 x5_1).f1) _ _ ((rd_T26 l1 x5_1).f0) _ _ ((rd_T26 l1 x5_1).f1) false _ ?side1 ?side2 ?side3 ?side4 ?side5 ?side6 ?side7 ?side8 A7.out).mono ?_
        (case side1 => exact xd ((Kd.C_below HR243_0.out HB.out)))
        (case side2 => exact HC243_0.out)
        (case side3 => exact xd ((Kd.C_below HR243_1.out HB.out)))
        (case side4 => exact HC243_1.out)
        (case side5 => exact xd ((Kd.C_below HR244_0.out HB.out)))
        (case side6 => exact HC244_0.out)
        (case side7 => exact xd ((Kd.C_below HR244_1.out HB.out)))
        (case side8 => exact HC244_1.out)
        rintro e w12 ⟨rfl, hb⟩
        refine ⟨_, rfl, ?_⟩
        replace HB := xp HB hb
        (try clear hb)
        (try clear hb2)
        (try clear hk)
        (try clear hi)
        refine hK.out _ _ ⟨((HB.out.cell (World.block_lt_of_cell? w _ hw243_0)).trans hw243_0), ((HB.out.cell (World.block_lt_of_cell? w _ hw243_1)).trans hw243_1), ((HB.out.cell (World.block_lt_of_cell? w _ hw244_0)).trans hw244_0), ((HB.out.cell (World.block_lt_of_cell? w _ hw244_1)).trans hw244_1)⟩ (fun hHeld => ?_)
        clear hK K
        refine norm_ (a' := ?_) ?_ ?_
        rotate_left
        ·show Act.put _ (some 25) _ = _
         simp only [Act.put, List.setIfInBounds_toArray, List.set_cons_zero, List.set_cons_succ, i64_w, i32_w]
         rfl
        refine pure_ (i := 9) (N := some 26) (v := ?_) (a' := ?_) #[true, true, true, true, true, true, true, true, true, true] rfl rfl (any_of HT_.out (by kernel_rfl)) (fun _ _ _ h => h) (Or.inl ⟨by rfl, ?_⟩) ?_ ?_
        rotate_left
        ·intro w'
         go_simp
         with_reducible rfl
        rotate_left
        ·simp only [Act.put, List.setIfInBounds_toArray, List.set_cons_zero, List.set_cons_succ, i64_w, i32_w]
         rfl
        refine done_ (done_of HT_.out (by kernel_rfl)) ?_
        try go_wp2
        go_ret
        exact ⟨by first | rfl | (simp [errW_none, errW_some] <;> rfl) | (simp [*, errW_none, errW_some] <;> rfl), by repeat (first | (with_reducible first | exact HB.out | apply below_alloc | apply pw_below_drewN | apply below_drew1) | exact HB.out)⟩
      ·rw [if_neg c6] at H
       exact absurd H (by simp)
     ·rw [if_neg c5] at H
      exact absurd H (by simp)
    ·rw [if_neg c4] at H
     have c4b0 : decide (x5_1 < (l0.length : Int)) = false := decide_eq_false c4
     clear c4
     obtain rfl := Option.some.inj H
     go_wp2
     go_ret
     exact ⟨by first | rfl | (simp [errW_none, errW_some] <;> rfl) | (simp [*, errW_none, errW_some] <;> rfl), by repeat (first | (with_reducible first | exact HB.out | apply below_alloc | apply pw_below_drewN | apply below_drew1) | exact HB.out)⟩
 ·rw [if_neg c3] at H
  have c3b0 : ((l0.length : Int) == (l1.length : Int)) = false := beq_eq_false_iff_ne.mpr c3
  have c3b1 : ((l0.length : Int) != (l1.length : Int)) = true := bne_iff_ne.mpr c3
  have c3b2 : (l0.length == l1.length) = false := by first | simpa using c3 | (simp at c3 ⊢; omega)
  obtain rfl := Option.some.inj H
  go_enter Try.func39, Try.ntmps39
  go_wp2
  go_ret
  exact ⟨by first | rfl | (simp [errW_none, errW_some] <;> rfl) | (simp [*, errW_none, errW_some] <;> rfl), by repeat (first | (with_reducible first | exact HB.out | apply below_alloc | apply pw_below_drewN | apply below_drew1) | exact HB.out)⟩

/-! ### laws_markVesselsS: function 40 -/
/-- element i of vessels that lie apart, to be written -/
theorem vess_lend {W : World} {e g n cap base : Nat} {ok : Nat → Prop} {xs : List S26} (h : Kd.S k26a e W base ok (.slice (some ⟨g, 0, none⟩) n cap) xs) (i : Int) (h0 : 0 ≤ i) (h1 : i < n) :
  ∃ v0 v1 : Value, W.cell? ⟨g, i.toNat * 2, none⟩ = some v0 ∧ W.cell? ⟨g, i.toNat * 2 + 1, none⟩ = some v1 ∧ Kd.R (Kd.int .i64) 3 W base (fun k => some k = v0.ownBlock) v0 (rd_T26 xs i).f0 ∧ Kd.R (Kd.int .i64) 3 W base (fun k => some k = v1.ownBlock) v1 (rd_T26 xs i).f1 ∧
   (∀ k, v0.ownBlock = some k → ok k ∧ k ≠ g ∧ some k ≠ v1.ownBlock) ∧ (∀ k, v1.ownBlock = some k → ok k ∧ k ≠ g ∧ some k ≠ v0.ownBlock) ∧
   ∀ (w1 : World) (x0 x1 : List Int) (P Q : Nat → Prop), Kept W w1 (fun k => some k = v0.ownBlock ∨ some k = v1.ownBlock) → Kd.R (Kd.int .i64) 3 w1 base P v0 x0 → Kd.R (Kd.int .i64) 3 w1 base Q v1 x1 → Kd.S k26a e w1 base ok (.slice (some ⟨g, 0, none⟩) n cap) (xs.set i.toNat ⟨x0, x1⟩) := by
 obtain ⟨oki, c, hcl, hM, hcc, hoki, hH⟩ := Kd.S_lend h z26 i h0 h1
 obtain ⟨v0, v1, rfl, hR0, hR1⟩ := hM
 refine ⟨v0, v1, hcc 0 v0 rfl, hcc 1 v1 rfl, Kd.R_tight rfl hR0, Kd.R_tight rfl hR1, fun k hk => ⟨(hoki k (hR0.1 k hk).1).1, (hoki k (hR0.1 k hk).1).2, (hR0.1 k hk).2⟩, fun k hk => ⟨(hoki k (hR1.1 k hk).1).1, (hoki k (hR1.1 k hk).1).2, (hR1.1 k hk).2⟩, fun w1 x0 x1 P Q hk r0 r1 => ?_⟩
 exact Kd.H_back (okp := oki) (Kd.H_kept hH hk (fun k _ hn he => hn (he.elim (fun e => (hR0.1 k e.symm).1) (fun e => (hR1.1 k e.symm).1)))) (k26a_mkM _ _ _ (⟨x0, x1⟩ : S26) (Kd.R_mono (Kd.R_tight rfl r0) (fun k hk => hR0.1 k hk.symm)) (Kd.R_mono (Kd.R_tight rfl r1) (fun k hk => hR1.1 k hk.symm))) (fun _ hk => hk)
def laws_markVesselsS.l0 : Nat → List S26 → Int → Int → Option (Int × List S26)
  | 0, _, _, _ => none
  | k + 1, x0, x1, x5 => if x5 < (x0.length : Int) then (if 0 ≤ x5 then ((laws_markIntS.f k (rd_T26 x0 x5).f0 x1).bind fun bt => (laws_markIntS.f k (rd_T26 x0 x5).f1 bt.1).bind fun bu => laws_markVesselsS.l0 k (x0.set x5.toNat ⟨bt.2, bu.2⟩) bu.1 (wrap64 (x5 + 1))) else none) else some (x1, x0)
def laws_markVesselsS.f (k : Nat) (l0 : List S26) (a1 : Int) : Option (Int × List S26) := laws_markVesselsS.l0 k l0 a1 0
theorem laws_markVesselsS.mono_l : ∀ k, (∀ y0 y1 y2, LeO (laws_markVesselsS.l0 k y0 y1 y2) (laws_markVesselsS.l0 (k + 1) y0 y1 y2))
 | 0 => fun _ _ _ r h => by simp [laws_markVesselsS.l0] at h
 | k + 1 => by
  have ih0 := laws_markVesselsS.mono_l k
  intro y0 y1 y2
  unfold laws_markVesselsS.l0
  refine LeO.ite ?_ (LeO.refl _)
  refine LeO.ite ?_ (LeO.none _)
  exact LeO.bind (laws_markIntS.mono _ _ _) (fun _ => LeO.bind (laws_markIntS.mono _ _ _) (fun _ => ih0 _ _ _))
theorem laws_markVesselsS.mono : ∀ a0 a1 k, LeO (laws_markVesselsS.f k a0 a1) (laws_markVesselsS.f (k + 1) a0 a1) := by
 intro a0 a1 k
 unfold laws_markVesselsS.f
 exact laws_markVesselsS.mono_l k _ _ _
set_option maxHeartbeats 8000000 in
set_option maxRecDepth 100000 in
theorem laws_markVesselsS.calls (k : Nat) (ok : Nat → Prop) (e : Nat) (u : Value) (l0 : List S26) (a1 : Int) (r1 : Int) (r2 : List S26) (w0 w : World) (hB : Below w0.heap.size w0 w) (ho0 : Kd.S k26a e w w0.heap.size ok u l0) (h : laws_markVesselsS.f k l0 a1 = some (r1, r2)) :
  Calls Try.prog 40 #[u, .int .i64 a1] w fun e_ w' => e_ = .returned (.int .i64 r1) ∧ Kd.S k26a e w' w0.heap.size ok u r2 ∧ Below w0.heap.size w0 w' ∧ Kept w w' ok := by
 have hu26 := Try.underlying26
 have HO := Aside0.mk ho0
 have HB := Aside0.mk hB
 have HK := Aside0.mk (Kept.refl w ok)
 have H' := Aside0.mk (show laws_markVesselsS.l0 k l0 a1 0 = some (r1, r2) from h)
 clear ho0 hB h
 go_enter Try.func40, Try.ntmps40
 go_wp2
 go_loopg [1, 5] k (fun kq v1 v5 w' => ∃ (x0 : List S26) (x1 : Int) (x5 : Int), v1 = .int .i64 x1 ∧ v5 = .int .i64 x5 ∧ Aside0 (laws_markVesselsS.l0 kq x0 x1 x5 = some (r1, r2)) ∧ Aside0 (kq ≤ k) ∧ Aside0 (Kd.S k26a e w' w0.heap.size ok u x0) ∧ Aside0 (Below w0.heap.size w0 w') ∧ Aside0 (Kept w w' ok))
 case atStart => exact ⟨l0, a1, 0, rfl, rfl, H', ⟨Nat.le_refl _⟩, HO, HB, HK⟩
 case round =>
  clear H' HO HB HK
  obtain ⟨x0, x1, x5, rfl, rfl, HA, HK1, HO, HB, HK⟩ := hrel
  cases gk with
  | zero => exact absurd HA.out (by simp [laws_markVesselsS.l0])
  | succ k1 =>
   have H := HA.out
   clear HA
   simp only [laws_markVesselsS.l0] at H
   by_cases c3 : x5 < (x0.length : Int)
   ·rw [if_pos c3] at H
    have c3b0 : decide (x5 < (x0.length : Int)) = true := decide_eq_true c3
    by_cases c4 : 0 ≤ x5
    ·rw [if_pos c4] at H
     have c4b0 : decide (0 ≤ x5) = true := decide_eq_true c4
     obtain ⟨⟨t1, t2⟩, A5, H⟩ := Option.bind_eq_some_iff.mp H
     obtain ⟨⟨t3, t4⟩, A6, H⟩ := Option.bind_eq_some_iff.mp H
     dsimp only at H A6
     have A5 := Aside0.mk A5
     have A6 := Aside0.mk A6
     have H' := Aside0.mk H
     obtain ⟨g, cap, rfl, hgb, hgl, cells, hh⟩ := Kd.S_form HO.out (by omega)
     obtain ⟨v0, v1, hx0, hx1, hR0, hR1, hv0, hv1, hback⟩ := vess_lend HO.out x5 c4 c3
     obtain ⟨A0_, c0_, e0_⟩ := Kd.R_slice hR0
     subst e0_
     obtain ⟨A1_, c1_, e1_⟩ := Kd.R_slice hR1
     subst e1_
     have HL := Aside0.mk c3
     have HP := Aside0.mk c4
     have q1 := eq_true c4
     have q2 := eq_true c3
     have HR0 := Aside0.mk hR0
     have HR1 := Aside0.mk hR1
     have HV0 := Aside0.mk hv0
     have HV1 := Aside0.mk hv1
     have HX1 := Aside0.mk hx1
     have HBK := Aside0.mk hback
     clear c3 c4 hR0 hR1 hv0 hv1 hback hh H
     go_upto_region 5 with (go_at_call 67; refine (laws_markIntS.calls k1 _ _ (rd_T26 x0 x5).f0 x1 t1 t2 w0 _ HB.out HR0.out A5.out).mono ?_; rintro e2 w2 ⟨rfl, hR2, hB2, hK2⟩; have HB2 := Aside0.mk hB2; have HK2 := Aside0.mk hK2; have HR2 := Aside0.mk hR2; have hy1 := cell_kept HX1.out hK2 (fun he => (HV0.out g he.symm).2.1 rfl); have HR12 := Aside0.mk (Kd.R_kept HR1.out hK2 (fun k hk he => (HV0.out k he.symm).2.2 hk)); clear hR2 hB2 hK2 hx1)
     go_wp2_with (go_at_call 67; refine (laws_markIntS.calls k1 _ _ (rd_T26 x0 x5).f1 t1 t3 t4 w0 _ HB2.out HR12.out A6.out).mono ?_; rintro e3 w3 ⟨rfl, hR3, hB3, hK3⟩; have HB3 := Aside0.mk hB3; have hkk := (HK2.out.mono (S' := fun k => some k = (Value.slice A0_ (rd_T26 x0 x5).f0.length c0_).ownBlock ∨ some k = (Value.slice A1_ (rd_T26 x0 x5).f1.length c1_).ownBlock) (fun k hk => .inl hk)).then_ hK3 (fun k hk => .inl (.inr hk)); have HK3 := Aside0.mk (HK.out.then_ hkk (fun k hk => .inl (hk.elim (fun e_ => (HV0.out k e_.symm).1) (fun e_ => (HV1.out k e_.symm).1)))); have HO3 := Aside0.mk (HBK.out _ _ _ _ _ hkk (Kd.R_kept (Kd.R_tight rfl HR2.out) hK3 (fun k hk he => (HV0.out k hk.symm).2.2 he)) hR3); clear hR3 hB3 hK3 hkk)
     go_roundg k1
     case measure => have := HK1.out; omega
     case rel => exact ⟨_, t3, wrap64 (x5 + 1), rfl, rfl, H', ⟨by have := HK1.out; omega⟩, HO3, HB3, HK3⟩
    ·rw [if_neg c4] at H
     exact absurd H (by simp)
   ·rw [if_neg c3] at H
    have c3b0 : decide (x5 < (x0.length : Int)) = false := decide_eq_false c3
    clear c3
    simp only [Option.some.injEq, Prod.mk.injEq] at H
    obtain ⟨rfl, rfl⟩ := H
    obtain ⟨Ao9, co9, eo9⟩ := Kd.S_slice HO.out
    subst eo9
    go_wp2
    go_ret
    exact ⟨by first | rfl | simp, HO.out, HB.out, HK.out⟩

end Go.Proofs.Ytobkbpoamicjgaa.PFnExactStatesAlong

/- Lean functions of the Go functions that the law FnExactChainOuts reaches, and the proofs that the calls come to what they say (made by program). -/
import Derived.Test.YtminippcikenfaaAb
import Derived.Test.YtminippcikenfaaPFnExactChainOutsx0
import Derived.Test.YtminippcikenfaaPFnExactChainOutsx3
namespace Go.Proofs.Ytminippcikenfaa.PFnExactChainOuts
open Go.RowKit Go.Proofs.YtminippcikenfaaW.PrintWords Go.Proofs.YtminippcikenfaaW.PrintLast Go.Proofs.YtminippcikenfaaW.PrintMore Go.Proofs.Ytminippcikenfaa.Ab
attribute [local go_sem] max2_int min2_int max_two min_two max_three min_three max_four min_four   -- for this text's walks alone
set_option linter.unusedVariables false
set_option linter.unusedSimpArgs false

/-! ### impl_Siphon_run: function 55 -/
def impl_Siphon_run.l0 : Nat → List Int → Int → Int → Int → Int → Int → Int → Int → Bool → List (S31) → List Int → List Int → Option ((List (S31)) × List Int × List Int)
  | 0, _, _, _, _, _, _, _, _, _, _, _, _ => none
  | k + 1, x16, x17, x18, x159000, x159001, x159002, x159003, x160000, x160001, x165000, x165001, x165002 => if x18 < x17 then (if 0 ≤ x18 then (if x18 < (x16.length : Int) then ((impl_Siphon_tick.f x159000 x159001 x159002 x159003 x160000 x160001 (rd x16 x18)).bind fun bt166 => ((some (([(⟨bt166.1, bt166.2.1⟩ : S31)] : List (S31)) : List (S31))).bind fun y171 => (if x165000.length + y171.length < 8796093022208 then ((some (([bt166.2.2.1] : List Int) : List Int)).bind fun y177 => (if x165001.length + y177.length < 17592186044416 then ((some (([bt166.2.2.2] : List Int) : List Int)).bind fun y183 => (if x165002.length + y183.length < 17592186044416 then (impl_Siphon_run.l0 k x16 x17 (wrap64 (x18 + 1)) x159000 x159001 x159002 x159003 bt166.1 bt166.2.1 (x165000 ++ y171) (x165001 ++ y177) (x165002 ++ y183)) else (none))) else (none))) else (none)))) else (none)) else (none)) else (some (x165000, x165001, x165002))
def impl_Siphon_run.f (k : Nat) (a0_0 : Int) (a0_1 : Int) (a0_2 : Int) (a0_3 : Int) (a1_0 : Int) (a1_1 : Bool) (l2 : List Int) : Option ((List (S31)) × List Int × List Int) := impl_Siphon_run.l0 k l2 (l2.length : Int) 0 a0_0 a0_1 a0_2 a0_3 a1_0 a1_1 (([(⟨a1_0, a1_1⟩ : S31)] : List (S31))) ([] : List Int) ([] : List Int)
theorem impl_Siphon_run.mono_l : ∀ k, (∀ y0 y1 y2 y3 y4 y5 y6 y7 y8 y9 y10 y11, LeO (impl_Siphon_run.l0 k y0 y1 y2 y3 y4 y5 y6 y7 y8 y9 y10 y11) (impl_Siphon_run.l0 (k + 1) y0 y1 y2 y3 y4 y5 y6 y7 y8 y9 y10 y11))
 | 0 => fun _ _ _ _ _ _ _ _ _ _ _ _ r h => by simp [impl_Siphon_run.l0] at h
 | k + 1 => by
  have ih0 := impl_Siphon_run.mono_l k
  ·intro y0 y1 y2 y3 y4 y5 y6 y7 y8 y9 y10 y11
   unfold impl_Siphon_run.l0
   repeat' first
   | (with_reducible exact ih0 _ _ _ _ _ _ _ _ _ _ _ _)
   | (with_reducible exact LeO.refl _)
   | (with_reducible exact LeO.none _)
   | (with_reducible refine LeO.ite ?_ ?_)
   | (with_reducible refine LeO.bind ?_ (fun _ => ?_))
   | exact ih0 _ _ _ _ _ _ _ _ _ _ _ _
   | exact LeO.none _
   | refine LeO.ite ?_ ?_
   | refine LeO.bind ?_ (fun _ => ?_)
theorem impl_Siphon_run.mono : ∀ a0 a1 a2 a3 a4 a5 a6 k, LeO (impl_Siphon_run.f k a0 a1 a2 a3 a4 a5 a6) (impl_Siphon_run.f (k + 1) a0 a1 a2 a3 a4 a5 a6) := by
 intro a0 a1 a2 a3 a4 a5 a6 k
 have ih0 := impl_Siphon_run.mono_l k
 unfold impl_Siphon_run.f
 repeat' first
   | (with_reducible exact ih0 _ _ _ _ _ _ _ _ _ _ _ _)
   | (with_reducible exact LeO.refl _)
   | (with_reducible exact LeO.none _)
   | (with_reducible refine LeO.ite ?_ ?_)
   | (with_reducible refine LeO.bind ?_ (fun _ => ?_))
   | exact ih0 _ _ _ _ _ _ _ _ _ _ _ _
   | exact LeO.none _
   | refine LeO.ite ?_ ?_
   | refine LeO.bind ?_ (fun _ => ?_)
def impl_Siphon_run.T6 : Bool × List (List Nat × List Nat) := (true, [([], []), ([0], [0]), ([], []), ([2], [2]), ([1, 3], [1, 3]), ([], []), ([5], [5]), ([], []), ([7], [7]), ([6, 8, 4], [6, 8]), ([], []), ([10], [10]), ([], []), ([12], [12]), ([11, 13, 9], [11, 13]), ([0, 1, 2, 3, 4, 5, 6, 10, 11], []), ([15, 4, 14, 0, 1, 2, 3, 4, 5, 6, 10, 11], [4, 15]), ([0, 1, 2, 3, 4, 5, 6, 7, 8, 9, 10, 11, 15, 16], []), ([17, 9, 16, 0, 1, 2, 3, 4, 5, 6, 7, 8, 9, 10, 11, 15, 16], [9, 17]), ([0, 1, 2, 3, 4, 5, 6, 7, 8, 9, 10, 11, 12, 13, 14, 15, 16, 17, 18], []), ([19, 14, 18, 0, 1, 2, 3, 4, 5, 6, 7, 8, 9, 10, 11, 12, 13, 14, 15, 16, 17, 18], [14, 19])])
def impl_Siphon_run.B6 : List Nat := [0, 1, 0, 4, 15, 0, 32, 0, 128, 511, 0, 1024, 0, 4096, 16383, 3199, 65535, 131071, 262143, 524287, 1048575]
theorem impl_Siphon_run.tab6 : rtab .any (opsOf Try.f55 6) = impl_Siphon_run.T6 := by kernel_rfl
theorem impl_Siphon_run.bits6 : waitsOk impl_Siphon_run.T6.2 impl_Siphon_run.B6 = true := by kernel_rfl
set_option maxHeartbeats 8000000 in
set_option maxRecDepth 100000 in
theorem impl_Siphon_run.calls (k : Nat) (a0_0 : Int) (a0_1 : Int) (a0_2 : Int) (a0_3 : Int) (a1_0 : Int) (a1_1 : Bool) (A2 : Option Addr) (c2 : Nat) (l2 : List Int) (r1 : List (S31)) (r2 : List Int) (r3 : List Int) (w : World) (hr2 : Kd.C (Kd.int .i64) w A2 l2.length l2) (hc2 : l2.length ≤ c2) (h : impl_Siphon_run.f k a0_0 a0_1 a0_2 a0_3 a1_0 a1_1 l2 = some (r1, r2, r3)) :
  Calls Try.prog 55 #[.agg #[.int .i64 a0_0, .int .i64 a0_1, .int .i64 a0_2, .int .i64 a0_3], .agg #[.int .i64 a1_0, .bool a1_1], .slice A2 l2.length c2] w fun e w' => ∃ v0_ v1_ v2_ : Value, e = .returned (.agg #[v0_, v1_, v2_]) ∧ Kd.R k31 31 w' w.heap.size (fun _ => True) v0_ r1 ∧ Kd.R (Kd.int .i64) 3 w' w.heap.size (fun k_ => nV k_ v2_) v1_ r2 ∧ Kd.R (Kd.int .i64) 3 w' w.heap.size (fun k_ => nV k_ v1_) v2_ r3 ∧ Below w.heap.size w w' := by
 have hu29 := Try.underlying29
 have hu31 := Try.underlying31
 have hu92 := Try.underlying92
 have HR2 := Aside0.mk hr2
 have HC2 := Aside0.mk hc2
 clear hr2 hc2
 have HB := Aside0.mk (Below.refl w.heap.size w)
 have H : (impl_Siphon_run.l0 k l2 (l2.length : Int) 0 a0_0 a0_1 a0_2 a0_3 a1_0 a1_1 (([(⟨a1_0, a1_1⟩ : S31)] : List (S31))) ([] : List Int) ([] : List Int)) = some (r1, r2, r3) := h
 clear h
 obtain ⟨y161, hy161⟩ : ∃ y_ : List (S31), y_ = (([(⟨a1_0, a1_1⟩ : S31)] : List (S31))) := ⟨_, rfl⟩
 replace H : (impl_Siphon_run.l0 k l2 (l2.length : Int) 0 a0_0 a0_1 a0_2 a0_3 a1_0 a1_1 y161 ([] : List Int) ([] : List Int)) = some (r1, r2, r3) := by first | (rw [hy161]; with_reducible exact H) | (have H2_ := (Option.bind_some _ _).symm.trans H; rw [hy161]; with_reducible exact H2_) | (have H2_ := (Option.bind_some _ _).symm.trans H; with_reducible exact H2_) | with_reducible exact H | (rw [hy161]; exact H) | exact H
 have Ny161 := Aside0.mk hy161
 clear hy161
 have H' := Aside0.mk H
 clear H
 go_enter Try.func55, Try.ntmps55
 go_wp2_with (first | ((with_reducible refine gate_dst (N := 3) rfl ?_); refine box_event ?hg (N := 3) ?hd (cs := #[.int .i64 a0_0, .int .i64 a0_1, .int .i64 a0_2, .int .i64 a0_3]) (t := 29) ?hr ?_; (case hd => rfl); (case hg => rfl); (case hr => first | (go_simp; done) | (go_simp; rfl)); intro gb158 hg w4 hbox hb; have BK158 := Aside0.mk (hbox); have GW158 := xg HB hg; have GE158 := xg HB hg; replace HB := xp HB hb; clear hb hbox hg) | ((with_reducible refine gate_dst (N := 4) rfl ?_); refine box_event ?hg (N := 4) ?hd (cs := #[.int .i64 a1_0, .bool a1_1]) (t := 31) ?hr ?_; (case hd => rfl); (case hg => rfl); (case hr => first | (go_simp; done) | (go_simp; rfl)); intro gb159 hg w5 hbox hb; have BK159 := Aside0.mk (hbox); have GW159 := xg HB hg; have GE159 := xg HB hg; replace HB := xp HB hb; have NB158_159 := xl BK158 hg; have NB159_158 := xh BK158 hg; replace BK158 := xk BK158 hb; clear hb hbox hg) | ((with_reducible refine gate_dst (N := 6) rfl ?_); refine box_event ?hg (N := 6) ?hd (cs := #[.slice none 0 0, .slice none 0 0, .slice none 0 0]) (t := 92) ?hr ?_; (case hd => rfl); (case hg => rfl); (case hr => first | (go_simp; done) | (go_simp; rfl)); intro gb160 hg w6 hbox hb; have BK160 := Aside0.mk (hbox); have GW160 := xg HB hg; have GE160 := xg HB hg; replace HB := xp HB hb; have NB158_160 := xl BK158 hg; have NB160_158 := xh BK158 hg; replace BK158 := xk BK158 hb; have NB159_160 := xl BK159 hg; have NB160_159 := xh BK159 hg; replace BK159 := xk BK159 hb; clear hb hbox hg; have hnb7 := NB159_158.out; have hnc7 := NB158_159.out; have hnb8 := NB159_160.out; have hnc8 := NB160_159.out; have hcz9_0 : w6.cell? ⟨gb159, 0, none⟩ = some (.int .i64 a1_0) := (blk_cell BK159.out 0).trans rfl; have hcz9_1 : w6.cell? ⟨gb159, 1, none⟩ = some (.bool a1_1) := (blk_cell BK159.out 1).trans rfl; have hfz9_0 := blk_frozen BK159.out 0; have hfz9_1 := blk_frozen BK159.out 1) | ((with_reducible refine gate_dst (N := 14) rfl ?_); refine Kd.R_lit k31 _ 31 ?hg (N := 14) ?hd (xs := ([(⟨a1_0, a1_1⟩ : S31)] : List (S31))) (inner := [.int .i64 a1_0, .bool a1_1]) (ok := fun _ => True) (okp := fun _ => True) ?hr ?hp (fun _ hk => hk) trivial (Below.refl _ _) (Nat.le_refl _) (by simp) ?_; (case hd => rfl); (case hg => rfl); (case hr => first | (go_simp; done) | (go_simp; rfl)); (case hp => exact (Reps.c2 (show Kd.M k31 _ _ _ (⟨a1_0, a1_1⟩ : S31) [.int .i64 a1_0, .bool a1_1] from (k31_mkM _ _ _ (⟨a1_0, a1_1⟩ : S31) )) (Reps.none _ _))); intro v162 w10 ho11 hb hg_ hnew_; clear hg_ hnew_; (first | rw [← Ny161.out] at ho11 | (simp only [Int.reduceToNat] at ho11; rw [← Ny161.out] at ho11)); have HO163 := Aside0.mk (Kd.R_lower (Kd.R_newB ho11 (g := gb159) (o := .cells #[.int .i64 a1_0, .bool a1_1] 31 (0, 0)) (xb BK159.out)) (below_size (xs HB.out))); replace BK158 := xk BK158 hb; replace BK159 := xk BK159 hb; replace BK160 := xk BK160 hb; replace HB := xp HB hb; clear hb ho11; obtain ⟨Ao12, co12, eo12⟩ := Kd.R_slice HO163.out; subst eo12) | ((with_reducible refine gate_dst (N := 7) rfl ?_); refine box_event ?hg (N := 7) ?hd (cs := #[.slice none 0 0, .slice none 0 0, .slice none 0 0]) (t := 92) ?hr ?_; (case hd => rfl); (case hg => rfl); (case hr => first | (go_simp; done) | (go_simp; rfl)); intro gb164 hg w13 hbox hb; replace HO163 := xq HO163 hb; have BK164 := Aside0.mk (hbox); have GW164 := xg HB hg; have GE164 := xg HB hg; replace HB := xp HB hb; have NB158_164 := xl BK158 hg; have NB164_158 := xh BK158 hg; replace BK158 := xk BK158 hb; have NB159_164 := xl BK159 hg; have NB164_159 := xh BK159 hg; replace BK159 := xk BK159 hb; have NB160_164 := xl BK160 hg; have NB164_160 := xh BK160 hg; replace BK160 := xk BK160 hb; clear hb hbox hg; have hnb14 := NB164_158.out; have hnc14 := NB158_164.out; have hnb15 := NB164_159.out; have hnc15 := NB159_164.out; have hnb16 := NB164_160.out; have hnc16 := NB160_164.out; have hcz17_0 : w13.cell? ⟨gb164, 0, none⟩ = some (.slice none 0 0) := (blk_cell BK164.out 0).trans rfl; have hcz17_1 : w13.cell? ⟨gb164, 1, none⟩ = some (.slice none 0 0) := (blk_cell BK164.out 1).trans rfl; have hcz17_2 : w13.cell? ⟨gb164, 2, none⟩ = some (.slice none 0 0) := (blk_cell BK164.out 2).trans rfl; have hfz17_0 := blk_frozen BK164.out 0; have hfz17_1 := blk_frozen BK164.out 1; have hfz17_2 := blk_frozen BK164.out 2))
 go_loopg [18] k (fun kq v18 w' => ∃ (x18_1 : Int) (x160000_1 : Int) (x160001_1 : Bool) (x165000_1 : List (S31)) (x165001_1 : List Int) (x165002_1 : List Int) (u165000 : Value) (u165001 : Value) (u165002 : Value), v18 = .int .i64 x18_1 ∧ Aside0 (impl_Siphon_run.l0 kq l2 (l2.length : Int) x18_1 a0_0 a0_1 a0_2 a0_3 x160000_1 x160001_1 x165000_1 x165001_1 x165002_1 = some (r1, r2, r3)) ∧ Aside0 (kq ≤ k) ∧ Aside0 (Kd.R k31 31 w' w.heap.size (fun k_ => k_ ≠ gb159) u165000 x165000_1) ∧ Aside0 (Kd.R (Kd.int .i64) 3 w' w.heap.size (fun k_ => nV k_ u165002) u165001 x165001_1) ∧ Aside0 (Kd.R (Kd.int .i64) 3 w' w.heap.size (fun k_ => nV k_ u165001) u165002 x165002_1) ∧ Aside0 (w'.heap[gb158]? = some (.cells #[.int .i64 a0_0, .int .i64 a0_1, .int .i64 a0_2, .int .i64 a0_3] 29 (0, 0))) ∧ Aside0 (w'.heap[gb159]? = some (.cells #[.int .i64 x160000_1, .bool x160001_1] 31 (0, 0))) ∧ Aside0 (w'.heap[gb160]? = some (.cells #[(.slice none 0 0), (.slice none 0 0), (.slice none 0 0)] 92 (0, 0))) ∧ Aside0 (w'.heap[gb164]? = some (.cells #[u165000, u165001, u165002] 92 (0, 0))) ∧ Aside0 (Below w.heap.size w w'))
 case atStart => exact ⟨(0), (a1_0), (a1_1), (y161), (([] : List Int)), (([] : List Int)), (.slice Ao12 y161.length co12), (.slice none 0 0), (.slice none 0 0), (by first | rfl | (simp; done) | (simp [*]; done)), H', ⟨Nat.le_refl _⟩, ⟨by (with_reducible repeat (first | apply Kd.R_alloc | apply Kd.R_drewN | apply Kd.R_drew)); exact Kd.R_mono (Kd.R_far (p := ⟨gb164, 2, none⟩) (Kd.R_far (p := ⟨gb164, 1, none⟩) (Kd.R_far (p := ⟨gb164, 0, none⟩) (Kd.R_types HO163.out BK164.out (by decide)) (fun _ hk => hk.2) (.slice Ao12 y161.length co12)) (fun _ hk => hk.2) (.slice none 0 0)) (fun _ hk => hk.2) (.slice none 0 0)) (fun _ hk => hk.1.2)⟩, ⟨by first | exact Kd.R_nil _ _ _ _ _ | exact Kd.N_nil _ _ _ _ _ | exact Kd.V_nil _ _ _ _ _ | exact Kd.Q_nil _ _ _ _ _ | exact Kd.S_nil _ _ _ _ _⟩, ⟨by first | exact Kd.R_nil _ _ _ _ _ | exact Kd.N_nil _ _ _ _ _ | exact Kd.V_nil _ _ _ _ _ | exact Kd.Q_nil _ _ _ _ _ | exact Kd.S_nil _ _ _ _ _⟩, ⟨by (with_reducible repeat (first | refine blk_drewN ?_ _ | refine blk_drew ?_ | refine blk_alloc ?_ _)); refine blk_far ?_ NB158_164.out _; (with_reducible repeat (first | refine blk_drewN ?_ _ | refine blk_drew ?_ | refine blk_alloc ?_ _)); refine blk_far ?_ NB158_164.out _; (with_reducible repeat (first | refine blk_drewN ?_ _ | refine blk_drew ?_ | refine blk_alloc ?_ _)); refine blk_far ?_ NB158_164.out _; (with_reducible repeat (first | refine blk_drewN ?_ _ | refine blk_drew ?_ | refine blk_alloc ?_ _)); exact BK158.out⟩, ⟨by (with_reducible repeat (first | refine blk_drewN ?_ _ | refine blk_drew ?_ | refine blk_alloc ?_ _)); refine blk_far ?_ NB159_164.out _; (with_reducible repeat (first | refine blk_drewN ?_ _ | refine blk_drew ?_ | refine blk_alloc ?_ _)); refine blk_far ?_ NB159_164.out _; (with_reducible repeat (first | refine blk_drewN ?_ _ | refine blk_drew ?_ | refine blk_alloc ?_ _)); refine blk_far ?_ NB159_164.out _; (with_reducible repeat (first | refine blk_drewN ?_ _ | refine blk_drew ?_ | refine blk_alloc ?_ _)); exact BK159.out⟩, ⟨by (with_reducible repeat (first | refine blk_drewN ?_ _ | refine blk_drew ?_ | refine blk_alloc ?_ _)); refine blk_far ?_ NB160_164.out _; (with_reducible repeat (first | refine blk_drewN ?_ _ | refine blk_drew ?_ | refine blk_alloc ?_ _)); refine blk_far ?_ NB160_164.out _; (with_reducible repeat (first | refine blk_drewN ?_ _ | refine blk_drew ?_ | refine blk_alloc ?_ _)); refine blk_far ?_ NB160_164.out _; (with_reducible repeat (first | refine blk_drewN ?_ _ | refine blk_drew ?_ | refine blk_alloc ?_ _)); exact BK160.out⟩, ⟨by (with_reducible repeat (first | refine blk_drewN ?_ _ | refine blk_drew ?_ | refine blk_alloc ?_ _)); refine blk_put (cs := #[.slice Ao12 y161.length co12, .slice none 0 0, .slice none 0 0]) ?_ 2 _ rfl; (with_reducible repeat (first | refine blk_drewN ?_ _ | refine blk_drew ?_ | refine blk_alloc ?_ _)); refine blk_put (cs := #[.slice Ao12 y161.length co12, .slice none 0 0, .slice none 0 0]) ?_ 1 _ rfl; (with_reducible repeat (first | refine blk_drewN ?_ _ | refine blk_drew ?_ | refine blk_alloc ?_ _)); refine blk_put (cs := #[.slice none 0 0, .slice none 0 0, .slice none 0 0]) ?_ 0 _ rfl; (with_reducible repeat (first | refine blk_drewN ?_ _ | refine blk_drew ?_ | refine blk_alloc ?_ _)); exact BK164.out⟩, ⟨xs HB.out⟩⟩
 case round =>
  clear H'
  try clear c1
  try clear c2
  try clear p2
  try clear c5
  try clear c7
  try clear c8
  try clear c14
  try clear c15
  try clear c16
  try clear hcz17_0
  try clear hcz17_1
  try clear hcz17_2
  try clear hcz9_0
  try clear hcz9_1
  try clear hfz17_0
  try clear hfz17_1
  try clear hfz17_2
  try clear hfz9_0
  try clear hfz9_1
  obtain ⟨x18_1, x160000_1, x160001_1, x165000_1, x165001_1, x165002_1, u165000, u165001, u165002, rfl, HA, HK1, HO_165000, HO_165001, HO_165002, BK158, BK159, BK160, BK164, HB⟩ := hrel
  cases gk with
  | zero => exact absurd HA.out (by simp [impl_Siphon_run.l0])
  | succ k1 =>
   have H := HA.out
   clear HA
   simp only [impl_Siphon_run.l0] at H
   by_cases c18 : x18_1 < (l2.length : Int)
   ·rw [if_pos c18] at H
    have c18b0 : decide (x18_1 < (l2.length : Int)) = true := decide_eq_true c18
    clear c18
    by_cases c19 : 0 ≤ x18_1
    ·rw [if_pos c19] at H
     have c19b0 : decide (0 ≤ x18_1) = true := decide_eq_true c19
     clear c19
     by_cases c20 : x18_1 < (l2.length : Int)
     ·rw [if_pos c20] at H
      have c20b0 : decide (x18_1 < (l2.length : Int)) = true := decide_eq_true c20
      clear c20
      replace H := Option.bind_eq_some_iff.mp H
      obtain ⟨⟨t166, t167, t168, t169⟩, A210, H⟩ := H
      replace H : ((some (([(⟨t166, t167⟩ : S31)] : List (S31)) : List (S31))).bind fun y171 => (if x165000_1.length + y171.length < 8796093022208 then ((some (([t168] : List Int) : List Int)).bind fun y177 => (if x165001_1.length + y177.length < 17592186044416 then ((some (([t169] : List Int) : List Int)).bind fun y183 => (if x165002_1.length + y183.length < 17592186044416 then (impl_Siphon_run.l0 k1 l2 (l2.length : Int) (wrap64 (x18_1 + 1)) a0_0 a0_1 a0_2 a0_3 t166 t167 (x165000_1 ++ y171) (x165001_1 ++ y177) (x165002_1 ++ y183)) else (none))) else (none))) else (none))) = some (r1, r2, r3) := H
      have A21 := Aside0.mk A210
      clear A210
      obtain ⟨y171, hy171⟩ : ∃ y_ : List (S31), y_ = (([(⟨t166, t167⟩ : S31)] : List (S31))) := ⟨_, rfl⟩
      replace H : (if x165000_1.length + y171.length < 8796093022208 then ((some (([t168] : List Int) : List Int)).bind fun y177 => (if x165001_1.length + y177.length < 17592186044416 then ((some (([t169] : List Int) : List Int)).bind fun y183 => (if x165002_1.length + y183.length < 17592186044416 then (impl_Siphon_run.l0 k1 l2 (l2.length : Int) (wrap64 (x18_1 + 1)) a0_0 a0_1 a0_2 a0_3 t166 t167 (x165000_1 ++ y171) (x165001_1 ++ y177) (x165002_1 ++ y183)) else (none))) else (none))) else (none)) = some (r1, r2, r3) := by first | (rw [hy171]; with_reducible exact H) | (have H2_ := (Option.bind_some _ _).symm.trans H; rw [hy171]; with_reducible exact H2_) | (have H2_ := (Option.bind_some _ _).symm.trans H; with_reducible exact H2_) | with_reducible exact H | (rw [hy171]; exact H) | exact H
      have Ny171 := Aside0.mk hy171
      clear hy171
      by_cases c22 : x165000_1.length + y171.length < 8796093022208
      ·rw [if_pos c22] at H
       have LMc22 := Aside0.mk c22
       clear c22
       obtain ⟨y174, hy174⟩ : ∃ y_ : List (S31), y_ = (x165000_1 ++ y171) := ⟨_, rfl⟩
       replace H : ((some (([t168] : List Int) : List Int)).bind fun y177 => (if x165001_1.length + y177.length < 17592186044416 then ((some (([t169] : List Int) : List Int)).bind fun y183 => (if x165002_1.length + y183.length < 17592186044416 then (impl_Siphon_run.l0 k1 l2 (l2.length : Int) (wrap64 (x18_1 + 1)) a0_0 a0_1 a0_2 a0_3 t166 t167 y174 (x165001_1 ++ y177) (x165002_1 ++ y183)) else (none))) else (none))) = some (r1, r2, r3) := by first | (rw [hy174]; with_reducible exact H) | (have H2_ := (Option.bind_some _ _).symm.trans H; rw [hy174]; with_reducible exact H2_) | (have H2_ := (Option.bind_some _ _).symm.trans H; with_reducible exact H2_) | with_reducible exact H | (rw [hy174]; exact H) | exact H
       have Ny174 := Aside0.mk hy174
       clear hy174
       obtain ⟨y177, hy177⟩ : ∃ y_ : List Int, y_ = (([t168] : List Int)) := ⟨_, rfl⟩
       replace H : (if x165001_1.length + y177.length < 17592186044416 then ((some (([t169] : List Int) : List Int)).bind fun y183 => (if x165002_1.length + y183.length < 17592186044416 then (impl_Siphon_run.l0 k1 l2 (l2.length : Int) (wrap64 (x18_1 + 1)) a0_0 a0_1 a0_2 a0_3 t166 t167 y174 (x165001_1 ++ y177) (x165002_1 ++ y183)) else (none))) else (none)) = some (r1, r2, r3) := by first | (rw [hy177]; with_reducible exact H) | (have H2_ := (Option.bind_some _ _).symm.trans H; rw [hy177]; with_reducible exact H2_) | (have H2_ := (Option.bind_some _ _).symm.trans H; with_reducible exact H2_) | with_reducible exact H | (rw [hy177]; exact H) | exact H
       have Ny177 := Aside0.mk hy177
       clear hy177
       by_cases c23 : x165001_1.length + y177.length < 17592186044416
       ·rw [if_pos c23] at H
        have LMc23 := Aside0.mk c23
        clear c23
        obtain ⟨y180, hy180⟩ : ∃ y_ : List Int, y_ = (x165001_1 ++ y177) := ⟨_, rfl⟩
        replace H : ((some (([t169] : List Int) : List Int)).bind fun y183 => (if x165002_1.length + y183.length < 17592186044416 then (impl_Siphon_run.l0 k1 l2 (l2.length : Int) (wrap64 (x18_1 + 1)) a0_0 a0_1 a0_2 a0_3 t166 t167 y174 y180 (x165002_1 ++ y183)) else (none))) = some (r1, r2, r3) := by first | (rw [hy180]; with_reducible exact H) | (have H2_ := (Option.bind_some _ _).symm.trans H; rw [hy180]; with_reducible exact H2_) | (have H2_ := (Option.bind_some _ _).symm.trans H; with_reducible exact H2_) | with_reducible exact H | (rw [hy180]; exact H) | exact H
        have Ny180 := Aside0.mk hy180
        clear hy180
        obtain ⟨y183, hy183⟩ : ∃ y_ : List Int, y_ = (([t169] : List Int)) := ⟨_, rfl⟩
        replace H : (if x165002_1.length + y183.length < 17592186044416 then (impl_Siphon_run.l0 k1 l2 (l2.length : Int) (wrap64 (x18_1 + 1)) a0_0 a0_1 a0_2 a0_3 t166 t167 y174 y180 (x165002_1 ++ y183)) else (none)) = some (r1, r2, r3) := by first | (rw [hy183]; with_reducible exact H) | (have H2_ := (Option.bind_some _ _).symm.trans H; rw [hy183]; with_reducible exact H2_) | (have H2_ := (Option.bind_some _ _).symm.trans H; with_reducible exact H2_) | with_reducible exact H | (rw [hy183]; exact H) | exact H
        have Ny183 := Aside0.mk hy183
        clear hy183
        by_cases c24 : x165002_1.length + y183.length < 17592186044416
        ·rw [if_pos c24] at H
         have LMc24 := Aside0.mk c24
         clear c24
         obtain ⟨y186, hy186⟩ : ∃ y_ : List Int, y_ = (x165002_1 ++ y183) := ⟨_, rfl⟩
         replace H : (impl_Siphon_run.l0 k1 l2 (l2.length : Int) (wrap64 (x18_1 + 1)) a0_0 a0_1 a0_2 a0_3 t166 t167 y174 y180 y186) = some (r1, r2, r3) := by first | (rw [hy186]; with_reducible exact H) | (have H2_ := (Option.bind_some _ _).symm.trans H; rw [hy186]; with_reducible exact H2_) | (have H2_ := (Option.bind_some _ _).symm.trans H; with_reducible exact H2_) | with_reducible exact H | (rw [hy186]; exact H) | exact H
         have Ny186 := Aside0.mk hy186
         clear hy186
         have H' := Aside0.mk H
         clear H
         have p165 : 0 ≤ (x18_1 : Int) := of_decide_eq_true (by first | (with_reducible assumption) | assumption)
         have q165 : x18_1 < (l2.length : Int) := of_decide_eq_true (by first | (with_reducible assumption) | assumption)
         obtain ⟨ad165, e165, hx165_0⟩ := Kd.at_int HR2.out x18_1 p165 q165
         cases e165
         replace hx165_0 := (HB.out.cell (World.block_lt_of_cell? w _ hx165_0)).trans hx165_0
         replace p165 := eq_true p165
         replace q165 := eq_true q165
         have hnb25 := NB158_159.out
         have hnc25 := NB159_158.out
         have hnb26 := NB158_160.out
         have hnc26 := NB160_158.out
         have hnb27 := NB158_164.out
         have hnc27 := NB164_158.out
         have hcz28_0 : wr.cell? ⟨gb158, 0, none⟩ = some (.int .i64 a0_0) := (blk_cell BK158.out 0).trans rfl
         have hcz28_1 : wr.cell? ⟨gb158, 1, none⟩ = some (.int .i64 a0_1) := (blk_cell BK158.out 1).trans rfl
         have hcz28_2 : wr.cell? ⟨gb158, 2, none⟩ = some (.int .i64 a0_2) := (blk_cell BK158.out 2).trans rfl
         have hcz28_3 : wr.cell? ⟨gb158, 3, none⟩ = some (.int .i64 a0_3) := (blk_cell BK158.out 3).trans rfl
         have hfz28_0 := blk_frozen BK158.out 0
         have hfz28_1 := blk_frozen BK158.out 1
         have hfz28_2 := blk_frozen BK158.out 2
         have hfz28_3 := blk_frozen BK158.out 3
         have hnb29 := NB159_160.out
         have hnc29 := NB160_159.out
         have hnb30 := NB159_164.out
         have hnc30 := NB164_159.out
         have hcz31_0 : wr.cell? ⟨gb159, 0, none⟩ = some (.int .i64 x160000_1) := (blk_cell BK159.out 0).trans rfl
         have hcz31_1 : wr.cell? ⟨gb159, 1, none⟩ = some (.bool x160001_1) := (blk_cell BK159.out 1).trans rfl
         have hfz31_0 := blk_frozen BK159.out 0
         have hfz31_1 := blk_frozen BK159.out 1
         try go_wp2_with (first | ((with_reducible refine gate_callee (f := 91) rfl ?_); refine goesL_ (some 26) rfl rfl Try.func91 (by kernel_rfl) rfl #[.agg #[.int .i64 a0_0, .int .i64 a0_1, .int .i64 a0_2, .int .i64 a0_3], .agg #[.int .i64 x160000_1, .bool x160001_1], .int .i64 (rd l2 x18_1)] rfl (by (try simp only [List.map_toArray, List.map_cons, List.map_nil]); first | done | rfl | (simp only [List.length_drop, List.length_take]; rfl)) ?_; (with_reducible refine (impl_Siphon_tick.calls a0_0 a0_1 a0_2 a0_3 x160000_1 x160001_1 (rd l2 x18_1) t166 t167 t168 t169 _ A21.out).mono ?_); rintro e w32 ⟨rfl, hb⟩; refine ⟨_, rfl, ?_⟩; replace HO_165000 := xq HO_165000 hb; replace HO_165001 := xq HO_165001 hb; replace HO_165002 := xq HO_165002 hb; replace BK158 := xk BK158 hb; replace BK159 := xk BK159 hb; replace BK160 := xk BK160 hb; replace BK164 := xk BK164 hb; replace HB := xp HB hb; (try clear hb); (try clear hb2); (try clear hk); (try clear hi)) | ((with_reducible refine gate_dst (N := 10) rfl ?_); refine box_event ?hg (N := 10) ?hd (cs := #[.int .i64 0, .bool false]) (t := 31) ?hr ?_; (case hd => rfl); (case hg => rfl); (case hr => first | (go_simp; done) | (go_simp; rfl)); intro gb170 hg w33 hbox hb; replace HO_165000 := Aside0.mk (Kd.R_below (Kd.R_elderB (xr HO_165000.out) gb170 (Nat.le_of_eq hg.symm)) hb); replace HO_165001 := xq HO_165001 hb; replace HO_165002 := xq HO_165002 hb; have BK170 := Aside0.mk (hbox); have GW170 := xg HB hg; have GE170 := xg HB hg; replace HB := xp HB hb; have NB158_170 := xl BK158 hg; have NB170_158 := xh BK158 hg; replace BK158 := xk BK158 hb; have NB159_170 := xl BK159 hg; have NB170_159 := xh BK159 hg; replace BK159 := xk BK159 hb; have NB160_170 := xl BK160 hg; have NB170_160 := xh BK160 hg; replace BK160 := xk BK160 hb; have NB164_170 := xl BK164 hg; have NB170_164 := xh BK164 hg; replace BK164 := xk BK164 hb; clear hb hbox hg; have hnb34 := NB170_158.out; have hnc34 := NB158_170.out; have hnb35 := NB170_159.out; have hnc35 := NB159_170.out; have hnb36 := NB170_160.out; have hnc36 := NB160_170.out; have hnb37 := NB170_164.out; have hnc37 := NB164_170.out; have hcz38_0 : w33.cell? ⟨gb170, 0, none⟩ = some (.int .i64 0) := (blk_cell BK170.out 0).trans rfl; have hcz38_1 : w33.cell? ⟨gb170, 1, none⟩ = some (.bool false) := (blk_cell BK170.out 1).trans rfl; have hfz38_0 := blk_frozen BK170.out 0; have hfz38_1 := blk_frozen BK170.out 1; obtain ⟨Ao39, co39, eo39⟩ := Kd.R_slice HO_165000.out; subst eo39; obtain ⟨Ao40, co40, eo40⟩ := Kd.R_slice HO_165001.out; subst eo40; obtain ⟨Ao41, co41, eo41⟩ := Kd.R_slice HO_165002.out; subst eo41))
         have n0_ : Aside0 (Kd.R k31 31 ((w33.setCell ⟨gb170, 0, none⟩ (.int .i64 t166)).setCell ⟨gb170, 1, none⟩ (.bool t167)) w.heap.size (fun k_ => k_ ≠ gb159 ∧ k_ ≠ gb170) (.slice Ao39 x165000_1.length co39) x165000_1) := ⟨by (with_reducible repeat (first | apply Kd.R_alloc | apply Kd.R_drewN | apply Kd.R_drew)); exact Kd.R_mono (Kd.R_far (p := ⟨gb170, 1, none⟩) (Kd.R_far (p := ⟨gb170, 0, none⟩) (Kd.R_mono HO_165000.out (fun k_ hk => (⟨hk, hk.2⟩ : _ ∧ k_ ≠ gb170))) (fun _ hk => hk.2) (.int .i64 t166)) (fun _ hk => hk.2) (.bool t167)) (fun _ hk => ⟨hk.1.1, hk.1.2⟩)⟩
         have n1_ : Aside0 (Kd.R (Kd.int .i64) 3 ((w33.setCell ⟨gb170, 0, none⟩ (.int .i64 t166)).setCell ⟨gb170, 1, none⟩ (.bool t167)) w.heap.size (fun k_ => nS k_ Ao41 x165002_1.length co41) (.slice Ao40 x165001_1.length co40) x165001_1) := ⟨by (with_reducible repeat (first | apply Kd.R_alloc | apply Kd.R_drewN | apply Kd.R_drew)); exact Kd.R_mono (Kd.R_far (p := ⟨gb170, 1, none⟩) (Kd.R_far (p := ⟨gb170, 0, none⟩) (Kd.R_types HO_165001.out BK170.out (by decide)) (fun _ hk => hk.2) (.int .i64 t166)) (fun _ hk => hk.2) (.bool t167)) (fun _ hk => hk.1)⟩
         have n2_ : Aside0 (Kd.R (Kd.int .i64) 3 ((w33.setCell ⟨gb170, 0, none⟩ (.int .i64 t166)).setCell ⟨gb170, 1, none⟩ (.bool t167)) w.heap.size (fun k_ => nS k_ Ao40 x165001_1.length co40) (.slice Ao41 x165002_1.length co41) x165002_1) := ⟨by (with_reducible repeat (first | apply Kd.R_alloc | apply Kd.R_drewN | apply Kd.R_drew)); exact Kd.R_mono (Kd.R_far (p := ⟨gb170, 1, none⟩) (Kd.R_far (p := ⟨gb170, 0, none⟩) (Kd.R_types HO_165002.out BK170.out (by decide)) (fun _ hk => hk.2) (.int .i64 t166)) (fun _ hk => hk.2) (.bool t167)) (fun _ hk => hk.1)⟩
         have n3_ : Aside0 (((w33.setCell ⟨gb170, 0, none⟩ (.int .i64 t166)).setCell ⟨gb170, 1, none⟩ (.bool t167)).heap[gb158]? = some (.cells #[.int .i64 a0_0, .int .i64 a0_1, .int .i64 a0_2, .int .i64 a0_3] 29 (0, 0))) := ⟨xff NB158_170.out NB158_170.out BK158.out⟩
         have n4_ : Aside0 (((w33.setCell ⟨gb170, 0, none⟩ (.int .i64 t166)).setCell ⟨gb170, 1, none⟩ (.bool t167)).heap[gb159]? = some (.cells #[.int .i64 x160000_1, .bool x160001_1] 31 (0, 0))) := ⟨xff NB159_170.out NB159_170.out BK159.out⟩
         have n5_ : Aside0 (((w33.setCell ⟨gb170, 0, none⟩ (.int .i64 t166)).setCell ⟨gb170, 1, none⟩ (.bool t167)).heap[gb160]? = some (.cells #[.slice none 0 0, .slice none 0 0, .slice none 0 0] 92 (0, 0))) := ⟨xff NB160_170.out NB160_170.out BK160.out⟩
         have n6_ : Aside0 (((w33.setCell ⟨gb170, 0, none⟩ (.int .i64 t166)).setCell ⟨gb170, 1, none⟩ (.bool t167)).heap[gb164]? = some (.cells #[.slice Ao39 x165000_1.length co39, .slice Ao40 x165001_1.length co40, .slice Ao41 x165002_1.length co41] 92 (0, 0))) := ⟨xff NB164_170.out NB164_170.out BK164.out⟩
         have n7_ : Aside0 (((w33.setCell ⟨gb170, 0, none⟩ (.int .i64 t166)).setCell ⟨gb170, 1, none⟩ (.bool t167)).heap[gb170]? = some (.cells #[.int .i64 t166, .bool t167] 31 (0, 0))) := ⟨by (with_reducible repeat (first | refine blk_drewN ?_ _ | refine blk_drew ?_ | refine blk_alloc ?_ _)); refine blk_put (cs := #[.int .i64 t166, .bool false]) ?_ 1 _ rfl; (with_reducible repeat (first | refine blk_drewN ?_ _ | refine blk_drew ?_ | refine blk_alloc ?_ _)); refine blk_put (cs := #[.int .i64 0, .bool false]) ?_ 0 _ rfl; (with_reducible repeat (first | refine blk_drewN ?_ _ | refine blk_drew ?_ | refine blk_alloc ?_ _)); exact BK170.out⟩
         have n8_ : Aside0 (Below w.heap.size w ((w33.setCell ⟨gb170, 0, none⟩ (.int .i64 t166)).setCell ⟨gb170, 1, none⟩ (.bool t167))) := ⟨xs HB.out⟩
         (try clear HO_165000)
         (try clear HO_165001)
         (try clear HO_165002)
         (try clear BK158)
         (try clear BK159)
         (try clear BK160)
         (try clear BK164)
         (try clear BK170)
         (try clear HB)
         generalize ((w33.setCell ⟨gb170, 0, none⟩ (.int .i64 t166)).setCell ⟨gb170, 1, none⟩ (.bool t167)) = w42 at n0_ n1_ n2_ n3_ n4_ n5_ n6_ n7_ n8_ ⊢
         have HO_165000 := n0_
         have HO_165001 := n1_
         have HO_165002 := n2_
         have BK158 := n3_
         have BK159 := n4_
         have BK160 := n5_
         have BK164 := n6_
         have BK170 := n7_
         have HB := n8_
         clear n0_ n1_ n2_ n3_ n4_ n5_ n6_ n7_ n8_
         replace HO_165000 := xw HO_165000
         replace HO_165001 := xw HO_165001
         replace HO_165002 := xw HO_165002
         replace BK158 := xv BK158
         replace BK159 := xv BK159
         replace BK160 := xv BK160
         replace BK164 := xv BK164
         replace BK170 := xv BK170
         replace HB := Aside0.mk (below_drew1 HB.out)
         refine start_ (n := 21) (S := fun w' => w'.cell? ⟨gb164, 0, none⟩ = some (.slice Ao39 x165000_1.length co39) ∧ w'.cell? ⟨gb164, 1, none⟩ = some (.slice Ao40 x165001_1.length co40) ∧ w'.cell? ⟨gb164, 2, none⟩ = some (.slice Ao41 x165002_1.length co41) ∧ w'.cell? ⟨gb170, 0, none⟩ = some (.int .i64 t166) ∧ w'.cell? ⟨gb170, 1, none⟩ = some (.bool t167)) (ds := [16, 18, 20]) #[false, false, false, false, false, false, false, false, false, false, false, false, false, false, false, false, false, false, false, false, false] (by kernel_rfl) rfl rfl ⟨(blk_cell BK164.out 0).trans rfl, (blk_cell BK164.out 1).trans rfl, (blk_cell BK164.out 2).trans rfl, (blk_cell BK170.out 0).trans rfl, (blk_cell BK170.out 1).trans rfl⟩ (fun hHeld => ?_); refine with_tabW impl_Siphon_run.tab6 impl_Siphon_run.bits6 (fun HT_ HW_ => ?_)
         generalize w42.drew = w43 at HO_165000 HO_165001 HO_165002 BK158 BK159 BK160 BK164 BK170 HB hHeld ⊢
         refine pure_ (i := 0) (N := some 30) (v := ?_) (a' := ?_) #[true, false, false, false, false, false, false, false, false, false, false, false, false, false, false, false, false, false, false, false, false] rfl rfl (any_of HT_.out (by kernel_rfl)) (fun _ _ _ h => h) (Or.inl ⟨by rfl, ?_⟩) ?_ ?_
         rotate_left
         ·intro w'
          go_simp
          with_reducible rfl
         rotate_left
         ·simp only [Act.put, List.setIfInBounds_toArray, List.set_cons_zero, List.set_cons_succ, i64_w, i32_w]
          rfl
         refine pure_ (i := 5) (N := some 35) (v := ?_) (a' := ?_) #[true, false, false, false, false, true, false, false, false, false, false, false, false, false, false, false, false, false, false, false, false] rfl rfl (any_of HT_.out (by kernel_rfl)) (fun _ _ _ h => h) (Or.inl ⟨by rfl, ?_⟩) ?_ ?_
         rotate_left
         ·intro w'
          go_simp
          with_reducible rfl
         rotate_left
         ·simp only [Act.put, List.setIfInBounds_toArray, List.set_cons_zero, List.set_cons_succ, i64_w, i32_w]
          rfl
         refine pure_ (i := 7) (N := some 37) (v := ?_) (a' := ?_) #[true, false, false, false, false, true, false, true, false, false, false, false, false, false, false, false, false, false, false, false, false] rfl rfl (any_of HT_.out (by kernel_rfl)) (fun _ _ _ h => h) (Or.inl ⟨by rfl, ?_⟩) ?_ ?_
         rotate_left
         ·intro w'
          go_simp
          with_reducible rfl
         rotate_left
         ·simp only [Act.put, List.setIfInBounds_toArray, List.set_cons_zero, List.set_cons_succ, i64_w, i32_w]
          rfl
         refine pure_ (i := 10) (N := some 40) (v := ?_) (a' := ?_) #[true, false, false, false, false, true, false, true, false, false, true, false, false, false, false, false, false, false, false, false, false] rfl rfl (any_of HT_.out (by kernel_rfl)) (fun _ _ _ h => h) (Or.inl ⟨by rfl, ?_⟩) ?_ ?_
         rotate_left
         ·intro w'
          go_simp
          with_reducible rfl
         rotate_left
         ·simp only [Act.put, List.setIfInBounds_toArray, List.set_cons_zero, List.set_cons_succ, i64_w, i32_w]
          rfl
         refine pure_ (i := 12) (N := some 42) (v := ?_) (a' := ?_) #[true, false, false, false, false, true, false, true, false, false, true, false, true, false, false, false, false, false, false, false, false] rfl rfl (any_of HT_.out (by kernel_rfl)) (fun _ _ _ h => h) (Or.inl ⟨by rfl, ?_⟩) ?_ ?_
         rotate_left
         ·intro w'
          go_simp
          with_reducible rfl
         rotate_left
         ·simp only [Act.put, List.setIfInBounds_toArray, List.set_cons_zero, List.set_cons_succ, i64_w, i32_w]
          rfl
         refine take_ (i := 1) (N := some 31) (v := ?_) (a' := ?_) #[true, true, false, false, false, true, false, true, false, false, true, false, true, false, false, false, false, false, false, false, false] rfl rfl (take_ofW HT_.out HW_.out (by kernel_rfl)) (fun _ _ _ h => h) (Or.inl ⟨by rfl, ?_⟩) hHeld ?_ ?_
         rotate_left
         ·rintro w' ⟨s0, s1, s2, s3, s4⟩
          go_simp
          with_reducible rfl
         rotate_left
         ·simp only [Act.put, List.setIfInBounds_toArray, List.set_cons_zero, List.set_cons_succ, i64_w, i32_w]
          rfl
         refine take_ (i := 2) (N := some 32) (v := ?_) (a' := ?_) #[true, true, true, false, false, true, false, true, false, false, true, false, true, false, false, false, false, false, false, false, false] rfl rfl (take_ofW HT_.out HW_.out (by kernel_rfl)) (fun _ _ _ h => h) (Or.inl ⟨by rfl, ?_⟩) hHeld ?_ ?_
         rotate_left
         ·rintro w' ⟨s0, s1, s2, s3, s4⟩
          go_simp
          with_reducible rfl
         rotate_left
         ·simp only [Act.put, List.setIfInBounds_toArray, List.set_cons_zero, List.set_cons_succ, i64_w, i32_w]
          rfl
         refine take_ (i := 6) (N := some 36) (v := ?_) (a' := ?_) #[true, true, true, false, false, true, true, true, false, false, true, false, true, false, false, false, false, false, false, false, false] rfl rfl (take_ofW HT_.out HW_.out (by kernel_rfl)) (fun _ _ _ h => h) (Or.inl ⟨by rfl, ?_⟩) hHeld ?_ ?_
         rotate_left
         ·rintro w' ⟨s0, s1, s2, s3, s4⟩
          go_simp
          with_reducible rfl
         rotate_left
         ·simp only [Act.put, List.setIfInBounds_toArray, List.set_cons_zero, List.set_cons_succ, i64_w, i32_w]
          rfl
         refine take_ (i := 11) (N := some 41) (v := ?_) (a' := ?_) #[true, true, true, false, false, true, true, true, false, false, true, true, true, false, false, false, false, false, false, false, false] rfl rfl (take_ofW HT_.out HW_.out (by kernel_rfl)) (fun _ _ _ h => h) (Or.inl ⟨by rfl, ?_⟩) hHeld ?_ ?_
         rotate_left
         ·rintro w' ⟨s0, s1, s2, s3, s4⟩
          go_simp
          with_reducible rfl
         rotate_left
         ·simp only [Act.put, List.setIfInBounds_toArray, List.set_cons_zero, List.set_cons_succ, i64_w, i32_w]
          rfl
         refine join_ (σ := Value × Value × Value × Value × Value) 6 #[true, true, true, true, true, true, true, true, true, true, true, true, true, true, false, true, false, false, false, false, false] (fun s_ => [(33, s_.1), (34, s_.2.1), (38, s_.2.2.1), (39, s_.2.2.2.1), (43, s_.2.2.2.2), (45, .pointer (some ⟨gb164, 0, none⟩))]) (fun s_ w' => (w'.cell? ⟨gb164, 0, none⟩ = some (.slice Ao39 x165000_1.length co39) ∧ w'.cell? ⟨gb164, 1, none⟩ = some (.slice Ao40 x165001_1.length co40) ∧ w'.cell? ⟨gb164, 2, none⟩ = some (.slice Ao41 x165002_1.length co41) ∧ w'.cell? ⟨gb170, 0, none⟩ = some (.int .i64 t166) ∧ w'.cell? ⟨gb170, 1, none⟩ = some (.bool t167)) ∧ (Kd.R k31 31 w' w.heap.size (fun k_ => some k_ ≠ (s_.2.1 : Value).ownBlock ∧ k_ ≠ gb159 ∧ k_ ≠ gb170) s_.1 y171) ∧ (Kd.R k31 31 w' w.heap.size (fun k_ => some k_ ≠ (s_.1 : Value).ownBlock ∧ k_ ≠ gb159 ∧ k_ ≠ gb170) s_.2.1 y174) ∧ (Kd.R (Kd.int .i64) 3 w' w.heap.size (fun k_ => some k_ ≠ (s_.2.2.2.1 : Value).ownBlock ∧ some k_ ≠ (s_.2.2.2.2 : Value).ownBlock ∧ nS k_ Ao41 x165002_1.length co41) s_.2.2.1 y177) ∧ (Kd.R (Kd.int .i64) 3 w' w.heap.size (fun k_ => some k_ ≠ (s_.2.2.1 : Value).ownBlock ∧ some k_ ≠ (s_.2.2.2.2 : Value).ownBlock ∧ nS k_ Ao41 x165002_1.length co41) s_.2.2.2.1 y180) ∧ (Kd.R (Kd.int .i64) 3 w' w.heap.size (fun k_ => some k_ ≠ (s_.2.2.1 : Value).ownBlock ∧ some k_ ≠ (s_.2.2.2.1 : Value).ownBlock ∧ nS k_ Ao41 x165002_1.length co41) s_.2.2.2.2 y183) ∧ (Kd.R (Kd.int .i64) 3 w' w.heap.size (fun k_ => some k_ ≠ (s_.2.2.1 : Value).ownBlock ∧ some k_ ≠ (s_.2.2.2.1 : Value).ownBlock ∧ some k_ ≠ (s_.2.2.2.2 : Value).ownBlock) (.slice Ao41 x165002_1.length co41) x165002_1) ∧ (w'.heap[gb158]? = some (.cells #[.int .i64 a0_0, .int .i64 a0_1, .int .i64 a0_2, .int .i64 a0_3] 29 (0, 0))) ∧ (w'.heap[gb159]? = some (.cells #[.int .i64 x160000_1, .bool x160001_1] 31 (0, 0))) ∧ (w'.heap[gb160]? = some (.cells #[.slice none 0 0, .slice none 0 0, .slice none 0 0] 92 (0, 0))) ∧ (w'.heap[gb164]? = some (.cells #[.slice Ao39 x165000_1.length co39, .slice Ao40 x165001_1.length co40, .slice Ao41 x165002_1.length co41] 92 (0, 0))) ∧ (w'.heap[gb170]? = some (.cells #[.int .i64 t166, .bool t167] 31 (0, 0))) ∧ (Below w.heap.size w w')) ?_ ?_
         rotate_left
         ·intro hJ3_4_8_9_13
          refine join_ (σ := Value × Value × Value × Value) 7 #[true, true, true, true, true, true, true, true, true, true, true, true, true, false, false, true, false, false, false, false, false] (fun s_ => [(33, s_.1), (34, s_.2.1), (38, s_.2.2.1), (39, s_.2.2.2), (45, .pointer (some ⟨gb164, 0, none⟩))]) (fun s_ w' => (w'.cell? ⟨gb164, 0, none⟩ = some (.slice Ao39 x165000_1.length co39) ∧ w'.cell? ⟨gb164, 1, none⟩ = some (.slice Ao40 x165001_1.length co40) ∧ w'.cell? ⟨gb164, 2, none⟩ = some (.slice Ao41 x165002_1.length co41) ∧ w'.cell? ⟨gb170, 0, none⟩ = some (.int .i64 t166) ∧ w'.cell? ⟨gb170, 1, none⟩ = some (.bool t167)) ∧ (Kd.R k31 31 w' w.heap.size (fun k_ => some k_ ≠ (s_.2.1 : Value).ownBlock ∧ k_ ≠ gb159 ∧ k_ ≠ gb170) s_.1 y171) ∧ (Kd.R k31 31 w' w.heap.size (fun k_ => some k_ ≠ (s_.1 : Value).ownBlock ∧ k_ ≠ gb159 ∧ k_ ≠ gb170) s_.2.1 y174) ∧ (Kd.R (Kd.int .i64) 3 w' w.heap.size (fun k_ => some k_ ≠ (s_.2.2.2 : Value).ownBlock ∧ nS k_ Ao41 x165002_1.length co41) s_.2.2.1 y177) ∧ (Kd.R (Kd.int .i64) 3 w' w.heap.size (fun k_ => some k_ ≠ (s_.2.2.1 : Value).ownBlock ∧ nS k_ Ao41 x165002_1.length co41) s_.2.2.2 y180) ∧ (Kd.R (Kd.int .i64) 3 w' w.heap.size (fun k_ => some k_ ≠ (s_.2.2.1 : Value).ownBlock ∧ some k_ ≠ (s_.2.2.2 : Value).ownBlock) (.slice Ao41 x165002_1.length co41) x165002_1) ∧ (w'.heap[gb158]? = some (.cells #[.int .i64 a0_0, .int .i64 a0_1, .int .i64 a0_2, .int .i64 a0_3] 29 (0, 0))) ∧ (w'.heap[gb159]? = some (.cells #[.int .i64 x160000_1, .bool x160001_1] 31 (0, 0))) ∧ (w'.heap[gb160]? = some (.cells #[.slice none 0 0, .slice none 0 0, .slice none 0 0] 92 (0, 0))) ∧ (w'.heap[gb164]? = some (.cells #[.slice Ao39 x165000_1.length co39, .slice Ao40 x165001_1.length co40, .slice Ao41 x165002_1.length co41] 92 (0, 0))) ∧ (w'.heap[gb170]? = some (.cells #[.int .i64 t166, .bool t167] 31 (0, 0))) ∧ (Below w.heap.size w w')) ?_ ?_
          rotate_left
          ·intro hJ3_4_8_9
           refine join_ (σ := Value × Value × Value × Value) 7 #[true, true, true, true, true, true, true, true, true, false, true, true, true, true, false, true, false, false, false, false, false] (fun s_ => [(33, s_.1), (34, s_.2.1), (38, s_.2.2.1), (43, s_.2.2.2), (45, .pointer (some ⟨gb164, 0, none⟩))]) (fun s_ w' => (w'.cell? ⟨gb164, 0, none⟩ = some (.slice Ao39 x165000_1.length co39) ∧ w'.cell? ⟨gb164, 1, none⟩ = some (.slice Ao40 x165001_1.length co40) ∧ w'.cell? ⟨gb164, 2, none⟩ = some (.slice Ao41 x165002_1.length co41) ∧ w'.cell? ⟨gb170, 0, none⟩ = some (.int .i64 t166) ∧ w'.cell? ⟨gb170, 1, none⟩ = some (.bool t167)) ∧ (Kd.R k31 31 w' w.heap.size (fun k_ => some k_ ≠ (s_.2.1 : Value).ownBlock ∧ k_ ≠ gb159 ∧ k_ ≠ gb170) s_.1 y171) ∧ (Kd.R k31 31 w' w.heap.size (fun k_ => some k_ ≠ (s_.1 : Value).ownBlock ∧ k_ ≠ gb159 ∧ k_ ≠ gb170) s_.2.1 y174) ∧ (Kd.R (Kd.int .i64) 3 w' w.heap.size (fun k_ => some k_ ≠ (s_.2.2.2 : Value).ownBlock ∧ nS k_ Ao40 x165001_1.length co40 ∧ nS k_ Ao41 x165002_1.length co41) s_.2.2.1 y177) ∧ (Kd.R (Kd.int .i64) 3 w' w.heap.size (fun k_ => some k_ ≠ (s_.2.2.1 : Value).ownBlock ∧ nS k_ Ao40 x165001_1.length co40 ∧ nS k_ Ao41 x165002_1.length co41) s_.2.2.2 y183) ∧ (Kd.R (Kd.int .i64) 3 w' w.heap.size (fun k_ => some k_ ≠ (s_.2.2.1 : Value).ownBlock ∧ some k_ ≠ (s_.2.2.2 : Value).ownBlock ∧ nS k_ Ao41 x165002_1.length co41) (.slice Ao40 x165001_1.length co40) x165001_1) ∧ (Kd.R (Kd.int .i64) 3 w' w.heap.size (fun k_ => some k_ ≠ (s_.2.2.1 : Value).ownBlock ∧ some k_ ≠ (s_.2.2.2 : Value).ownBlock ∧ nS k_ Ao40 x165001_1.length co40) (.slice Ao41 x165002_1.length co41) x165002_1) ∧ (w'.heap[gb158]? = some (.cells #[.int .i64 a0_0, .int .i64 a0_1, .int .i64 a0_2, .int .i64 a0_3] 29 (0, 0))) ∧ (w'.heap[gb159]? = some (.cells #[.int .i64 x160000_1, .bool x160001_1] 31 (0, 0))) ∧ (w'.heap[gb160]? = some (.cells #[.slice none 0 0, .slice none 0 0, .slice none 0 0] 92 (0, 0))) ∧ (w'.heap[gb164]? = some (.cells #[.slice Ao39 x165000_1.length co39, .slice Ao40 x165001_1.length co40, .slice Ao41 x165002_1.length co41] 92 (0, 0))) ∧ (w'.heap[gb170]? = some (.cells #[.int .i64 t166, .bool t167] 31 (0, 0))) ∧ (Below w.heap.size w w')) ?_ ?_
           rotate_left
           ·intro hJ3_4_8_13
            refine join_ (σ := Value × Value × Value) 8 #[true, true, true, true, true, true, true, true, true, false, true, true, true, false, false, true, false, false, false, false, false] (fun s_ => [(33, s_.1), (34, s_.2.1), (38, s_.2.2), (45, .pointer (some ⟨gb164, 0, none⟩))]) (fun s_ w' => (w'.cell? ⟨gb164, 0, none⟩ = some (.slice Ao39 x165000_1.length co39) ∧ w'.cell? ⟨gb164, 1, none⟩ = some (.slice Ao40 x165001_1.length co40) ∧ w'.cell? ⟨gb164, 2, none⟩ = some (.slice Ao41 x165002_1.length co41) ∧ w'.cell? ⟨gb170, 0, none⟩ = some (.int .i64 t166) ∧ w'.cell? ⟨gb170, 1, none⟩ = some (.bool t167)) ∧ (Kd.R k31 31 w' w.heap.size (fun k_ => some k_ ≠ (s_.2.1 : Value).ownBlock ∧ k_ ≠ gb159 ∧ k_ ≠ gb170) s_.1 y171) ∧ (Kd.R k31 31 w' w.heap.size (fun k_ => some k_ ≠ (s_.1 : Value).ownBlock ∧ k_ ≠ gb159 ∧ k_ ≠ gb170) s_.2.1 y174) ∧ (Kd.R (Kd.int .i64) 3 w' w.heap.size (fun k_ => nS k_ Ao40 x165001_1.length co40 ∧ nS k_ Ao41 x165002_1.length co41) s_.2.2 y177) ∧ (Kd.R (Kd.int .i64) 3 w' w.heap.size (fun k_ => some k_ ≠ (s_.2.2 : Value).ownBlock ∧ nS k_ Ao41 x165002_1.length co41) (.slice Ao40 x165001_1.length co40) x165001_1) ∧ (Kd.R (Kd.int .i64) 3 w' w.heap.size (fun k_ => some k_ ≠ (s_.2.2 : Value).ownBlock ∧ nS k_ Ao40 x165001_1.length co40) (.slice Ao41 x165002_1.length co41) x165002_1) ∧ (w'.heap[gb158]? = some (.cells #[.int .i64 a0_0, .int .i64 a0_1, .int .i64 a0_2, .int .i64 a0_3] 29 (0, 0))) ∧ (w'.heap[gb159]? = some (.cells #[.int .i64 x160000_1, .bool x160001_1] 31 (0, 0))) ∧ (w'.heap[gb160]? = some (.cells #[.slice none 0 0, .slice none 0 0, .slice none 0 0] 92 (0, 0))) ∧ (w'.heap[gb164]? = some (.cells #[.slice Ao39 x165000_1.length co39, .slice Ao40 x165001_1.length co40, .slice Ao41 x165002_1.length co41] 92 (0, 0))) ∧ (w'.heap[gb170]? = some (.cells #[.int .i64 t166, .bool t167] 31 (0, 0))) ∧ (Below w.heap.size w w')) ?_ ?_
            rotate_left
            ·intro hJ3_4_8
             refine join_ (σ := Value × Value × Value) 8 #[true, true, true, true, true, true, true, true, false, false, true, true, true, true, false, true, false, false, false, false, false] (fun s_ => [(33, s_.1), (34, s_.2.1), (43, s_.2.2), (45, .pointer (some ⟨gb164, 0, none⟩))]) (fun s_ w' => (w'.cell? ⟨gb164, 0, none⟩ = some (.slice Ao39 x165000_1.length co39) ∧ w'.cell? ⟨gb164, 1, none⟩ = some (.slice Ao40 x165001_1.length co40) ∧ w'.cell? ⟨gb164, 2, none⟩ = some (.slice Ao41 x165002_1.length co41) ∧ w'.cell? ⟨gb170, 0, none⟩ = some (.int .i64 t166) ∧ w'.cell? ⟨gb170, 1, none⟩ = some (.bool t167)) ∧ (Kd.R k31 31 w' w.heap.size (fun k_ => some k_ ≠ (s_.2.1 : Value).ownBlock ∧ k_ ≠ gb159 ∧ k_ ≠ gb170) s_.1 y171) ∧ (Kd.R k31 31 w' w.heap.size (fun k_ => some k_ ≠ (s_.1 : Value).ownBlock ∧ k_ ≠ gb159 ∧ k_ ≠ gb170) s_.2.1 y174) ∧ (Kd.R (Kd.int .i64) 3 w' w.heap.size (fun k_ => nS k_ Ao40 x165001_1.length co40 ∧ nS k_ Ao41 x165002_1.length co41) s_.2.2 y183) ∧ (Kd.R (Kd.int .i64) 3 w' w.heap.size (fun k_ => some k_ ≠ (s_.2.2 : Value).ownBlock ∧ nS k_ Ao41 x165002_1.length co41) (.slice Ao40 x165001_1.length co40) x165001_1) ∧ (Kd.R (Kd.int .i64) 3 w' w.heap.size (fun k_ => some k_ ≠ (s_.2.2 : Value).ownBlock ∧ nS k_ Ao40 x165001_1.length co40) (.slice Ao41 x165002_1.length co41) x165002_1) ∧ (w'.heap[gb158]? = some (.cells #[.int .i64 a0_0, .int .i64 a0_1, .int .i64 a0_2, .int .i64 a0_3] 29 (0, 0))) ∧ (w'.heap[gb159]? = some (.cells #[.int .i64 x160000_1, .bool x160001_1] 31 (0, 0))) ∧ (w'.heap[gb160]? = some (.cells #[.slice none 0 0, .slice none 0 0, .slice none 0 0] 92 (0, 0))) ∧ (w'.heap[gb164]? = some (.cells #[.slice Ao39 x165000_1.length co39, .slice Ao40 x165001_1.length co40, .slice Ao41 x165002_1.length co41] 92 (0, 0))) ∧ (w'.heap[gb170]? = some (.cells #[.int .i64 t166, .bool t167] 31 (0, 0))) ∧ (Below w.heap.size w w')) ?_ ?_
             rotate_left
             ·intro hJ3_4_13
              refine join_ (σ := Value × Value × Value) 9 #[true, true, true, true, false, true, true, true, true, false, true, true, true, true, false, false, false, false, false, false, false] (fun s_ => [(33, s_.1), (38, s_.2.1), (43, s_.2.2)]) (fun s_ w' => (w'.cell? ⟨gb164, 0, none⟩ = some (.slice Ao39 x165000_1.length co39) ∧ w'.cell? ⟨gb164, 1, none⟩ = some (.slice Ao40 x165001_1.length co40) ∧ w'.cell? ⟨gb164, 2, none⟩ = some (.slice Ao41 x165002_1.length co41) ∧ w'.cell? ⟨gb170, 0, none⟩ = some (.int .i64 t166) ∧ w'.cell? ⟨gb170, 1, none⟩ = some (.bool t167)) ∧ (Kd.R k31 31 w' w.heap.size (fun k_ => nS k_ Ao39 x165000_1.length co39 ∧ k_ ≠ gb159 ∧ k_ ≠ gb170) s_.1 y171) ∧ (Kd.R (Kd.int .i64) 3 w' w.heap.size (fun k_ => some k_ ≠ (s_.2.2 : Value).ownBlock ∧ nS k_ Ao40 x165001_1.length co40 ∧ nS k_ Ao41 x165002_1.length co41) s_.2.1 y177) ∧ (Kd.R (Kd.int .i64) 3 w' w.heap.size (fun k_ => some k_ ≠ (s_.2.1 : Value).ownBlock ∧ nS k_ Ao40 x165001_1.length co40 ∧ nS k_ Ao41 x165002_1.length co41) s_.2.2 y183) ∧ (Kd.R k31 31 w' w.heap.size (fun k_ => some k_ ≠ (s_.1 : Value).ownBlock ∧ k_ ≠ gb159 ∧ k_ ≠ gb170) (.slice Ao39 x165000_1.length co39) x165000_1) ∧ (Kd.R (Kd.int .i64) 3 w' w.heap.size (fun k_ => some k_ ≠ (s_.2.1 : Value).ownBlock ∧ some k_ ≠ (s_.2.2 : Value).ownBlock ∧ nS k_ Ao41 x165002_1.length co41) (.slice Ao40 x165001_1.length co40) x165001_1) ∧ (Kd.R (Kd.int .i64) 3 w' w.heap.size (fun k_ => some k_ ≠ (s_.2.1 : Value).ownBlock ∧ some k_ ≠ (s_.2.2 : Value).ownBlock ∧ nS k_ Ao40 x165001_1.length co40) (.slice Ao41 x165002_1.length co41) x165002_1) ∧ (w'.heap[gb158]? = some (.cells #[.int .i64 a0_0, .int .i64 a0_1, .int .i64 a0_2, .int .i64 a0_3] 29 (0, 0))) ∧ (w'.heap[gb159]? = some (.cells #[.int .i64 x160000_1, .bool x160001_1] 31 (0, 0))) ∧ (w'.heap[gb160]? = some (.cells #[.slice none 0 0, .slice none 0 0, .slice none 0 0] 92 (0, 0))) ∧ (w'.heap[gb164]? = some (.cells #[.slice Ao39 x165000_1.length co39, .slice Ao40 x165001_1.length co40, .slice Ao41 x165002_1.length co41] 92 (0, 0))) ∧ (w'.heap[gb170]? = some (.cells #[.int .i64 t166, .bool t167] 31 (0, 0))) ∧ (Below w.heap.size w w')) ?_ ?_
              rotate_left
              ·intro hJ3_8_13
               refine join_ (σ := Value × Value) 9 #[true, true, true, true, true, true, true, true, false, false, true, true, true, false, false, true, false, false, false, false, false] (fun s_ => [(33, s_.1), (34, s_.2), (45, .pointer (some ⟨gb164, 0, none⟩))]) (fun s_ w' => (w'.cell? ⟨gb164, 0, none⟩ = some (.slice Ao39 x165000_1.length co39) ∧ w'.cell? ⟨gb164, 1, none⟩ = some (.slice Ao40 x165001_1.length co40) ∧ w'.cell? ⟨gb164, 2, none⟩ = some (.slice Ao41 x165002_1.length co41) ∧ w'.cell? ⟨gb170, 0, none⟩ = some (.int .i64 t166) ∧ w'.cell? ⟨gb170, 1, none⟩ = some (.bool t167)) ∧ (Kd.R k31 31 w' w.heap.size (fun k_ => some k_ ≠ (s_.2 : Value).ownBlock ∧ k_ ≠ gb159 ∧ k_ ≠ gb170) s_.1 y171) ∧ (Kd.R k31 31 w' w.heap.size (fun k_ => some k_ ≠ (s_.1 : Value).ownBlock ∧ k_ ≠ gb159 ∧ k_ ≠ gb170) s_.2 y174) ∧ (Kd.R (Kd.int .i64) 3 w' w.heap.size (fun k_ => nS k_ Ao41 x165002_1.length co41) (.slice Ao40 x165001_1.length co40) x165001_1) ∧ (Kd.R (Kd.int .i64) 3 w' w.heap.size (fun k_ => nS k_ Ao40 x165001_1.length co40) (.slice Ao41 x165002_1.length co41) x165002_1) ∧ (w'.heap[gb158]? = some (.cells #[.int .i64 a0_0, .int .i64 a0_1, .int .i64 a0_2, .int .i64 a0_3] 29 (0, 0))) ∧ (w'.heap[gb159]? = some (.cells #[.int .i64 x160000_1, .bool x160001_1] 31 (0, 0))) ∧ (w'.heap[gb160]? = some (.cells #[.slice none 0 0, .slice none 0 0, .slice none 0 0] 92 (0, 0))) ∧ (w'.heap[gb164]? = some (.cells #[.slice Ao39 x165000_1.length co39, .slice Ao40 x165001_1.length co40, .slice Ao41 x165002_1.length co41] 92 (0, 0))) ∧ (w'.heap[gb170]? = some (.cells #[.int .i64 t166, .bool t167] 31 (0, 0))) ∧ (Below w.heap.size w w')) ?_ ?_
               rotate_left
               ·intro hJ3_4
                refine join_ (σ := Value × Value) 10 #[true, true, true, true, false, true, true, true, true, false, true, true, true, false, false, false, false, false, false, false, false] (fun s_ => [(33, s_.1), (38, s_.2)]) (fun s_ w' => (w'.cell? ⟨gb164, 0, none⟩ = some (.slice Ao39 x165000_1.length co39) ∧ w'.cell? ⟨gb164, 1, none⟩ = some (.slice Ao40 x165001_1.length co40) ∧ w'.cell? ⟨gb164, 2, none⟩ = some (.slice Ao41 x165002_1.length co41) ∧ w'.cell? ⟨gb170, 0, none⟩ = some (.int .i64 t166) ∧ w'.cell? ⟨gb170, 1, none⟩ = some (.bool t167)) ∧ (Kd.R k31 31 w' w.heap.size (fun k_ => nS k_ Ao39 x165000_1.length co39 ∧ k_ ≠ gb159 ∧ k_ ≠ gb170) s_.1 y171) ∧ (Kd.R (Kd.int .i64) 3 w' w.heap.size (fun k_ => nS k_ Ao40 x165001_1.length co40 ∧ nS k_ Ao41 x165002_1.length co41) s_.2 y177) ∧ (Kd.R k31 31 w' w.heap.size (fun k_ => some k_ ≠ (s_.1 : Value).ownBlock ∧ k_ ≠ gb159 ∧ k_ ≠ gb170) (.slice Ao39 x165000_1.length co39) x165000_1) ∧ (Kd.R (Kd.int .i64) 3 w' w.heap.size (fun k_ => some k_ ≠ (s_.2 : Value).ownBlock ∧ nS k_ Ao41 x165002_1.length co41) (.slice Ao40 x165001_1.length co40) x165001_1) ∧ (Kd.R (Kd.int .i64) 3 w' w.heap.size (fun k_ => some k_ ≠ (s_.2 : Value).ownBlock ∧ nS k_ Ao40 x165001_1.length co40) (.slice Ao41 x165002_1.length co41) x165002_1) ∧ (w'.heap[gb158]? = some (.cells #[.int .i64 a0_0, .int .i64 a0_1, .int .i64 a0_2, .int .i64 a0_3] 29 (0, 0))) ∧ (w'.heap[gb159]? = some (.cells #[.int .i64 x160000_1, .bool x160001_1] 31 (0, 0))) ∧ (w'.heap[gb160]? = some (.cells #[.slice none 0 0, .slice none 0 0, .slice none 0 0] 92 (0, 0))) ∧ (w'.heap[gb164]? = some (.cells #[.slice Ao39 x165000_1.length co39, .slice Ao40 x165001_1.length co40, .slice Ao41 x165002_1.length co41] 92 (0, 0))) ∧ (w'.heap[gb170]? = some (.cells #[.int .i64 t166, .bool t167] 31 (0, 0))) ∧ (Below w.heap.size w w')) ?_ ?_
                rotate_left
                ·intro hJ3_8
                 refine join_ (σ := Value × Value) 10 #[true, true, true, true, false, true, true, true, false, false, true, true, true, true, false, false, false, false, false, false, false] (fun s_ => [(33, s_.1), (43, s_.2)]) (fun s_ w' => (w'.cell? ⟨gb164, 0, none⟩ = some (.slice Ao39 x165000_1.length co39) ∧ w'.cell? ⟨gb164, 1, none⟩ = some (.slice Ao40 x165001_1.length co40) ∧ w'.cell? ⟨gb164, 2, none⟩ = some (.slice Ao41 x165002_1.length co41) ∧ w'.cell? ⟨gb170, 0, none⟩ = some (.int .i64 t166) ∧ w'.cell? ⟨gb170, 1, none⟩ = some (.bool t167)) ∧ (Kd.R k31 31 w' w.heap.size (fun k_ => nS k_ Ao39 x165000_1.length co39 ∧ k_ ≠ gb159 ∧ k_ ≠ gb170) s_.1 y171) ∧ (Kd.R (Kd.int .i64) 3 w' w.heap.size (fun k_ => nS k_ Ao40 x165001_1.length co40 ∧ nS k_ Ao41 x165002_1.length co41) s_.2 y183) ∧ (Kd.R k31 31 w' w.heap.size (fun k_ => some k_ ≠ (s_.1 : Value).ownBlock ∧ k_ ≠ gb159 ∧ k_ ≠ gb170) (.slice Ao39 x165000_1.length co39) x165000_1) ∧ (Kd.R (Kd.int .i64) 3 w' w.heap.size (fun k_ => some k_ ≠ (s_.2 : Value).ownBlock ∧ nS k_ Ao41 x165002_1.length co41) (.slice Ao40 x165001_1.length co40) x165001_1) ∧ (Kd.R (Kd.int .i64) 3 w' w.heap.size (fun k_ => some k_ ≠ (s_.2 : Value).ownBlock ∧ nS k_ Ao40 x165001_1.length co40) (.slice Ao41 x165002_1.length co41) x165002_1) ∧ (w'.heap[gb158]? = some (.cells #[.int .i64 a0_0, .int .i64 a0_1, .int .i64 a0_2, .int .i64 a0_3] 29 (0, 0))) ∧ (w'.heap[gb159]? = some (.cells #[.int .i64 x160000_1, .bool x160001_1] 31 (0, 0))) ∧ (w'.heap[gb160]? = some (.cells #[.slice none 0 0, .slice none 0 0, .slice none 0 0] 92 (0, 0))) ∧ (w'.heap[gb164]? = some (.cells #[.slice Ao39 x165000_1.length co39, .slice Ao40 x165001_1.length co40, .slice Ao41 x165002_1.length co41] 92 (0, 0))) ∧ (w'.heap[gb170]? = some (.cells #[.int .i64 t166, .bool t167] 31 (0, 0))) ∧ (Below w.heap.size w w')) ?_ ?_
                 rotate_left
                 ·intro hJ3_13
                  refine join_ (σ := Value × Value) 10 #[true, true, true, false, false, true, true, true, true, false, true, true, true, true, false, false, false, false, false, false, false] (fun s_ => [(38, s_.1), (43, s_.2)]) (fun s_ w' => (w'.cell? ⟨gb164, 0, none⟩ = some (.slice Ao39 x165000_1.length co39) ∧ w'.cell? ⟨gb164, 1, none⟩ = some (.slice Ao40 x165001_1.length co40) ∧ w'.cell? ⟨gb164, 2, none⟩ = some (.slice Ao41 x165002_1.length co41) ∧ w'.cell? ⟨gb170, 0, none⟩ = some (.int .i64 t166) ∧ w'.cell? ⟨gb170, 1, none⟩ = some (.bool t167)) ∧ (Kd.R (Kd.int .i64) 3 w' w.heap.size (fun k_ => some k_ ≠ (s_.2 : Value).ownBlock ∧ nS k_ Ao40 x165001_1.length co40 ∧ nS k_ Ao41 x165002_1.length co41) s_.1 y177) ∧ (Kd.R (Kd.int .i64) 3 w' w.heap.size (fun k_ => some k_ ≠ (s_.1 : Value).ownBlock ∧ nS k_ Ao40 x165001_1.length co40 ∧ nS k_ Ao41 x165002_1.length co41) s_.2 y183) ∧ (Kd.R k31 31 w' w.heap.size (fun k_ => k_ ≠ gb159 ∧ k_ ≠ gb170) (.slice Ao39 x165000_1.length co39) x165000_1) ∧ (Kd.R (Kd.int .i64) 3 w' w.heap.size (fun k_ => some k_ ≠ (s_.1 : Value).ownBlock ∧ some k_ ≠ (s_.2 : Value).ownBlock ∧ nS k_ Ao41 x165002_1.length co41) (.slice Ao40 x165001_1.length co40) x165001_1) ∧ (Kd.R (Kd.int .i64) 3 w' w.heap.size (fun k_ => some k_ ≠ (s_.1 : Value).ownBlock ∧ some k_ ≠ (s_.2 : Value).ownBlock ∧ nS k_ Ao40 x165001_1.length co40) (.slice Ao41 x165002_1.length co41) x165002_1) ∧ (w'.heap[gb158]? = some (.cells #[.int .i64 a0_0, .int .i64 a0_1, .int .i64 a0_2, .int .i64 a0_3] 29 (0, 0))) ∧ (w'.heap[gb159]? = some (.cells #[.int .i64 x160000_1, .bool x160001_1] 31 (0, 0))) ∧ (w'.heap[gb160]? = some (.cells #[.slice none 0 0, .slice none 0 0, .slice none 0 0] 92 (0, 0))) ∧ (w'.heap[gb164]? = some (.cells #[.slice Ao39 x165000_1.length co39, .slice Ao40 x165001_1.length co40, .slice Ao41 x165002_1.length co41] 92 (0, 0))) ∧ (w'.heap[gb170]? = some (.cells #[.int .i64 t166, .bool t167] 31 (0, 0))) ∧ (Below w.heap.size w w')) ?_ ?_
                  rotate_left
                  ·intro hJ8_13
                   refine join_ (σ := Value) 11 #[true, true, true, true, false, true, true, true, false, false, true, true, true, false, false, false, false, false, false, false, false] (fun s_ => [(33, s_)]) (fun s_ w' => (w'.cell? ⟨gb164, 0, none⟩ = some (.slice Ao39 x165000_1.length co39) ∧ w'.cell? ⟨gb164, 1, none⟩ = some (.slice Ao40 x165001_1.length co40) ∧ w'.cell? ⟨gb164, 2, none⟩ = some (.slice Ao41 x165002_1.length co41) ∧ w'.cell? ⟨gb170, 0, none⟩ = some (.int .i64 t166) ∧ w'.cell? ⟨gb170, 1, none⟩ = some (.bool t167)) ∧ (Kd.R k31 31 w' w.heap.size (fun k_ => nS k_ Ao39 x165000_1.length co39 ∧ k_ ≠ gb159 ∧ k_ ≠ gb170) s_ y171) ∧ (Kd.R k31 31 w' w.heap.size (fun k_ => nV k_ s_ ∧ k_ ≠ gb159 ∧ k_ ≠ gb170) (.slice Ao39 x165000_1.length co39) x165000_1) ∧ (Kd.R (Kd.int .i64) 3 w' w.heap.size (fun k_ => nS k_ Ao41 x165002_1.length co41) (.slice Ao40 x165001_1.length co40) x165001_1) ∧ (Kd.R (Kd.int .i64) 3 w' w.heap.size (fun k_ => nS k_ Ao40 x165001_1.length co40) (.slice Ao41 x165002_1.length co41) x165002_1) ∧ (w'.heap[gb158]? = some (.cells #[.int .i64 a0_0, .int .i64 a0_1, .int .i64 a0_2, .int .i64 a0_3] 29 (0, 0))) ∧ (w'.heap[gb159]? = some (.cells #[.int .i64 x160000_1, .bool x160001_1] 31 (0, 0))) ∧ (w'.heap[gb160]? = some (.cells #[.slice none 0 0, .slice none 0 0, .slice none 0 0] 92 (0, 0))) ∧ (w'.heap[gb164]? = some (.cells #[.slice Ao39 x165000_1.length co39, .slice Ao40 x165001_1.length co40, .slice Ao41 x165002_1.length co41] 92 (0, 0))) ∧ (w'.heap[gb170]? = some (.cells #[.int .i64 t166, .bool t167] 31 (0, 0))) ∧ (Below w.heap.size w w')) ?_ ?_
                   rotate_left
                   ·intro hJ3
                    refine join_ (σ := Value) 11 #[true, true, true, false, false, true, true, true, true, false, true, true, true, false, false, false, false, false, false, false, false] (fun s_ => [(38, s_)]) (fun s_ w' => (w'.cell? ⟨gb164, 0, none⟩ = some (.slice Ao39 x165000_1.length co39) ∧ w'.cell? ⟨gb164, 1, none⟩ = some (.slice Ao40 x165001_1.length co40) ∧ w'.cell? ⟨gb164, 2, none⟩ = some (.slice Ao41 x165002_1.length co41) ∧ w'.cell? ⟨gb170, 0, none⟩ = some (.int .i64 t166) ∧ w'.cell? ⟨gb170, 1, none⟩ = some (.bool t167)) ∧ (Kd.R (Kd.int .i64) 3 w' w.heap.size (fun k_ => nS k_ Ao40 x165001_1.length co40 ∧ nS k_ Ao41 x165002_1.length co41) s_ y177) ∧ (Kd.R k31 31 w' w.heap.size (fun k_ => k_ ≠ gb159 ∧ k_ ≠ gb170) (.slice Ao39 x165000_1.length co39) x165000_1) ∧ (Kd.R (Kd.int .i64) 3 w' w.heap.size (fun k_ => nV k_ s_ ∧ nS k_ Ao41 x165002_1.length co41) (.slice Ao40 x165001_1.length co40) x165001_1) ∧ (Kd.R (Kd.int .i64) 3 w' w.heap.size (fun k_ => nV k_ s_ ∧ nS k_ Ao40 x165001_1.length co40) (.slice Ao41 x165002_1.length co41) x165002_1) ∧ (w'.heap[gb158]? = some (.cells #[.int .i64 a0_0, .int .i64 a0_1, .int .i64 a0_2, .int .i64 a0_3] 29 (0, 0))) ∧ (w'.heap[gb159]? = some (.cells #[.int .i64 x160000_1, .bool x160001_1] 31 (0, 0))) ∧ (w'.heap[gb160]? = some (.cells #[.slice none 0 0, .slice none 0 0, .slice none 0 0] 92 (0, 0))) ∧ (w'.heap[gb164]? = some (.cells #[.slice Ao39 x165000_1.length co39, .slice Ao40 x165001_1.length co40, .slice Ao41 x165002_1.length co41] 92 (0, 0))) ∧ (w'.heap[gb170]? = some (.cells #[.int .i64 t166, .bool t167] 31 (0, 0))) ∧ (Below w.heap.size w w')) ?_ ?_
                    rotate_left
                    ·intro hJ8
                     refine join_ (σ := Value) 11 #[true, true, true, false, false, true, true, true, false, false, true, true, true, true, false, false, false, false, false, false, false] (fun s_ => [(43, s_)]) (fun s_ w' => (w'.cell? ⟨gb164, 0, none⟩ = some (.slice Ao39 x165000_1.length co39) ∧ w'.cell? ⟨gb164, 1, none⟩ = some (.slice Ao40 x165001_1.length co40) ∧ w'.cell? ⟨gb164, 2, none⟩ = some (.slice Ao41 x165002_1.length co41) ∧ w'.cell? ⟨gb170, 0, none⟩ = some (.int .i64 t166) ∧ w'.cell? ⟨gb170, 1, none⟩ = some (.bool t167)) ∧ (Kd.R (Kd.int .i64) 3 w' w.heap.size (fun k_ => nS k_ Ao40 x165001_1.length co40 ∧ nS k_ Ao41 x165002_1.length co41) s_ y183) ∧ (Kd.R k31 31 w' w.heap.size (fun k_ => k_ ≠ gb159 ∧ k_ ≠ gb170) (.slice Ao39 x165000_1.length co39) x165000_1) ∧ (Kd.R (Kd.int .i64) 3 w' w.heap.size (fun k_ => nV k_ s_ ∧ nS k_ Ao41 x165002_1.length co41) (.slice Ao40 x165001_1.length co40) x165001_1) ∧ (Kd.R (Kd.int .i64) 3 w' w.heap.size (fun k_ => nV k_ s_ ∧ nS k_ Ao40 x165001_1.length co40) (.slice Ao41 x165002_1.length co41) x165002_1) ∧ (w'.heap[gb158]? = some (.cells #[.int .i64 a0_0, .int .i64 a0_1, .int .i64 a0_2, .int .i64 a0_3] 29 (0, 0))) ∧ (w'.heap[gb159]? = some (.cells #[.int .i64 x160000_1, .bool x160001_1] 31 (0, 0))) ∧ (w'.heap[gb160]? = some (.cells #[.slice none 0 0, .slice none 0 0, .slice none 0 0] 92 (0, 0))) ∧ (w'.heap[gb164]? = some (.cells #[.slice Ao39 x165000_1.length co39, .slice Ao40 x165001_1.length co40, .slice Ao41 x165002_1.length co41] 92 (0, 0))) ∧ (w'.heap[gb170]? = some (.cells #[.int .i64 t166, .bool t167] 31 (0, 0))) ∧ (Below w.heap.size w w')) ?_ ?_
                     rotate_left
                     ·intro hJ13
                      refine three_ (i := 3) (j := 8) (k := 13) (Ni := some 33) (Nj := some 38) (Nk := some 43) #[true, true, true, true, false, true, true, true, false, false, true, true, true, false, false, false, false, false, false, false, false] #[true, true, true, false, false, true, true, true, true, false, true, true, true, false, false, false, false, false, false, false, false] #[true, true, true, false, false, true, true, true, false, false, true, true, true, true, false, false, false, false, false, false, false] rfl rfl rfl rfl rfl rfl (three_of HT_.out (by kernel_rfl)) (by decide) (by decide) (by decide) (fun K hK => ?_) (fun K hK => ?_) (fun K hK => ?_)
                      ·skip
                       refine Kd.R_lit_step k31 _ 31 ?hg (N := 33) ?hd (xs := ([(⟨t166, t167⟩ : S31)] : List (S31))) (inner := [.int .i64 t166, .bool t167]) (ok := fun _ => True) (okp := fun _ => True) ?hr ?hp (fun _ hk => hk) trivial (Below.refl _ _) (Nat.le_refl _) (by simp) ?_; (case hd => rfl); (case hg => rfl); (case hr => first | (go_simp; done) | (go_simp; rfl)); (case hp => exact (Reps.c2 (show Kd.M k31 _ _ _ (⟨t166, t167⟩ : S31) [.int .i64 t166, .bool t167] from (k31_mkM _ _ _ (⟨t166, t167⟩ : S31) )) (Reps.none _ _)))
                       intro v172 w44 ho45 hb hg_ hnew_
                       clear hg_ hnew_
                       (first | rw [← Ny171.out] at ho45 | (simp only [Int.reduceToNat] at ho45; rw [← Ny171.out] at ho45))
                       replace HO_165001 := xq HO_165001 hb
                       replace HO_165002 := xq HO_165002 hb
                       have HO173 := Aside0.mk (Kd.R_lower (Kd.R_newB (Kd.R_newB (Kd.R_new' ho45 (Kd.R_lt (xr HO_165000.out))) (g := gb159) (o := .cells #[.int .i64 x160000_1, .bool x160001_1] 31 (0, 0)) (xb BK159.out)) (g := gb170) (o := .cells #[.int .i64 t166, .bool t167] 31 (0, 0)) (xb BK170.out)) (below_size (xs HB.out)))
                       replace HO_165000 := Aside0.mk (Kd.R_elder' (xr HO_165000.out) (Kd.R_base ho45) hb)
                       replace BK158 := xk BK158 hb
                       replace BK159 := xk BK159 hb
                       replace BK160 := xk BK160 hb
                       replace BK164 := xk BK164 hb
                       replace BK170 := xk BK170 hb
                       replace HB := xp HB hb
                       clear hb ho45
                       refine hK.out _ _ ⟨(blk_cell BK164.out 0).trans rfl, (blk_cell BK164.out 1).trans rfl, (blk_cell BK164.out 2).trans rfl, (blk_cell BK170.out 0).trans rfl, (blk_cell BK170.out 1).trans rfl⟩ (fun hHeld => ?_)
                       clear hK K
                       refine norm_ (a' := ?_) ?_ ?_
                       rotate_left
                       ·show Act.put _ (some 33) _ = _
                        simp only [Act.put, List.setIfInBounds_toArray, List.set_cons_zero, List.set_cons_succ, i64_w, i32_w]
                        rfl
                       exact norm_ (by first | (simp only [putAll, Act.put, List.setIfInBounds_toArray, List.set_cons_zero, List.set_cons_succ]; done) | (simp only [putAll, Act.put, List.setIfInBounds_toArray, List.set_cons_zero, List.set_cons_succ]; rfl)) (hJ3 (v172) _ ⟨hHeld, (xm HO173 (fun _ hk => ⟨hk.1.1.2, ⟨hk.1.2, hk.2⟩⟩)), (xm HO_165000 (fun _ hk => ⟨hk.2, ⟨hk.1.1, hk.1.2⟩⟩)), (xr HO_165001.out), (xr HO_165002.out), (xb BK158.out), (xb BK159.out), (xb BK160.out), (xb BK164.out), (xb BK170.out), (xs HB.out)⟩)
                      ·skip
                       refine Kd.R_lit_step (Kd.int .i64) _ 3 ?hg (N := 38) ?hd (xs := ([t168] : List Int)) (inner := [.int .i64 t168]) (ok := fun _ => True) (okp := fun _ => True) ?hr ?hp (fun _ hk => hk) trivial (Below.refl _ _) (Nat.le_refl _) (by simp) ?_; (case hd => rfl); (case hg => rfl); (case hr => first | (go_simp; done) | (go_simp; rfl)); (case hp => exact (Reps.one (show Kd.M (Kd.int .i64) _ _ _ t168 [.int .i64 t168] from rfl) (Reps.none _ _)))
                       intro v178 w44 ho45 hb hg_ hnew_
                       clear hg_ hnew_
                       (first | rw [← Ny177.out] at ho45 | (simp only [Int.reduceToNat] at ho45; rw [← Ny177.out] at ho45))
                       replace HO_165000 := xq HO_165000 hb
                       have HO179 := Aside0.mk (Kd.R_lower (Kd.R_new' (Kd.R_new' ho45 (Kd.R_lt (xr HO_165001.out))) (Kd.R_lt (xr HO_165002.out))) (below_size (xs HB.out)))
                       replace HO_165001 := Aside0.mk (Kd.R_elder' (xr HO_165001.out) (Kd.R_base ho45) hb)
                       replace HO_165002 := Aside0.mk (Kd.R_elder' (xr HO_165002.out) (Kd.R_base ho45) hb)
                       replace BK158 := xk BK158 hb
                       replace BK159 := xk BK159 hb
                       replace BK160 := xk BK160 hb
                       replace BK164 := xk BK164 hb
                       replace BK170 := xk BK170 hb
                       replace HB := xp HB hb
                       clear hb ho45
                       refine hK.out _ _ ⟨(blk_cell BK164.out 0).trans rfl, (blk_cell BK164.out 1).trans rfl, (blk_cell BK164.out 2).trans rfl, (blk_cell BK170.out 0).trans rfl, (blk_cell BK170.out 1).trans rfl⟩ (fun hHeld => ?_)
                       clear hK K
                       refine norm_ (a' := ?_) ?_ ?_
                       rotate_left
                       ·show Act.put _ (some 38) _ = _
                        simp only [Act.put, List.setIfInBounds_toArray, List.set_cons_zero, List.set_cons_succ, i64_w, i32_w]
                        rfl
                       exact norm_ (by first | (simp only [putAll, Act.put, List.setIfInBounds_toArray, List.set_cons_zero, List.set_cons_succ]; done) | (simp only [putAll, Act.put, List.setIfInBounds_toArray, List.set_cons_zero, List.set_cons_succ]; rfl)) (hJ8 (v178) _ ⟨hHeld, (xm HO179 (fun _ hk => ⟨hk.1.2, hk.2⟩)), (xr HO_165000.out), (xm HO_165001 (fun _ hk => ⟨hk.2, hk.1⟩)), (xm HO_165002 (fun _ hk => ⟨hk.2, hk.1⟩)), (xb BK158.out), (xb BK159.out), (xb BK160.out), (xb BK164.out), (xb BK170.out), (xs HB.out)⟩)
                      ·skip
                       refine Kd.R_lit_step (Kd.int .i64) _ 3 ?hg (N := 43) ?hd (xs := ([t169] : List Int)) (inner := [.int .i64 t169]) (ok := fun _ => True) (okp := fun _ => True) ?hr ?hp (fun _ hk => hk) trivial (Below.refl _ _) (Nat.le_refl _) (by simp) ?_; (case hd => rfl); (case hg => rfl); (case hr => first | (go_simp; done) | (go_simp; rfl)); (case hp => exact (Reps.one (show Kd.M (Kd.int .i64) _ _ _ t169 [.int .i64 t169] from rfl) (Reps.none _ _)))
                       intro v184 w44 ho45 hb hg_ hnew_
                       clear hg_ hnew_
                       (first | rw [← Ny183.out] at ho45 | (simp only [Int.reduceToNat] at ho45; rw [← Ny183.out] at ho45))
                       replace HO_165000 := xq HO_165000 hb
                       have HO185 := Aside0.mk (Kd.R_lower (Kd.R_new' (Kd.R_new' ho45 (Kd.R_lt (xr HO_165001.out))) (Kd.R_lt (xr HO_165002.out))) (below_size (xs HB.out)))
                       replace HO_165001 := Aside0.mk (Kd.R_elder' (xr HO_165001.out) (Kd.R_base ho45) hb)
                       replace HO_165002 := Aside0.mk (Kd.R_elder' (xr HO_165002.out) (Kd.R_base ho45) hb)
                       replace BK158 := xk BK158 hb
                       replace BK159 := xk BK159 hb
                       replace BK160 := xk BK160 hb
                       replace BK164 := xk BK164 hb
                       replace BK170 := xk BK170 hb
                       replace HB := xp HB hb
                       clear hb ho45
                       refine hK.out _ _ ⟨(blk_cell BK164.out 0).trans rfl, (blk_cell BK164.out 1).trans rfl, (blk_cell BK164.out 2).trans rfl, (blk_cell BK170.out 0).trans rfl, (blk_cell BK170.out 1).trans rfl⟩ (fun hHeld => ?_)
                       clear hK K
                       refine norm_ (a' := ?_) ?_ ?_
                       rotate_left
                       ·show Act.put _ (some 43) _ = _
                        simp only [Act.put, List.setIfInBounds_toArray, List.set_cons_zero, List.set_cons_succ, i64_w, i32_w]
                        rfl
                       exact norm_ (by first | (simp only [putAll, Act.put, List.setIfInBounds_toArray, List.set_cons_zero, List.set_cons_succ]; done) | (simp only [putAll, Act.put, List.setIfInBounds_toArray, List.set_cons_zero, List.set_cons_succ]; rfl)) (hJ13 (v184) _ ⟨hHeld, (xm HO185 (fun _ hk => ⟨hk.1.2, hk.2⟩)), (xr HO_165000.out), (xm HO_165001 (fun _ hk => ⟨hk.2, hk.1⟩)), (xm HO_165002 (fun _ hk => ⟨hk.2, hk.1⟩)), (xb BK158.out), (xb BK159.out), (xb BK160.out), (xb BK164.out), (xb BK170.out), (xs HB.out)⟩)
                     ·skip
                      rintro v184 w46 ⟨hS_, h0_, h1_, h2_, h3_, h4_, h5_, h6_, h7_, h8_, h9_⟩
                      have n0_ : Aside0 (Kd.R (Kd.int .i64) 3 w46 w.heap.size (fun k_ => nS k_ Ao40 x165001_1.length co40 ∧ nS k_ Ao41 x165002_1.length co41) v184 y183) := ⟨h0_⟩
                      have n1_ : Aside0 (Kd.R k31 31 w46 w.heap.size (fun k_ => k_ ≠ gb159 ∧ k_ ≠ gb170) (.slice Ao39 x165000_1.length co39) x165000_1) := ⟨h1_⟩
                      have n2_ : Aside0 (Kd.R (Kd.int .i64) 3 w46 w.heap.size (fun k_ => nV k_ v184 ∧ nS k_ Ao41 x165002_1.length co41) (.slice Ao40 x165001_1.length co40) x165001_1) := ⟨h2_⟩
                      have n3_ : Aside0 (Kd.R (Kd.int .i64) 3 w46 w.heap.size (fun k_ => nV k_ v184 ∧ nS k_ Ao40 x165001_1.length co40) (.slice Ao41 x165002_1.length co41) x165002_1) := ⟨h3_⟩
                      have n4_ : Aside0 (w46.heap[gb158]? = some (.cells #[.int .i64 a0_0, .int .i64 a0_1, .int .i64 a0_2, .int .i64 a0_3] 29 (0, 0))) := ⟨h4_⟩
                      have n5_ : Aside0 (w46.heap[gb159]? = some (.cells #[.int .i64 x160000_1, .bool x160001_1] 31 (0, 0))) := ⟨h5_⟩
                      have n6_ : Aside0 (w46.heap[gb160]? = some (.cells #[.slice none 0 0, .slice none 0 0, .slice none 0 0] 92 (0, 0))) := ⟨h6_⟩
                      have n7_ : Aside0 (w46.heap[gb164]? = some (.cells #[.slice Ao39 x165000_1.length co39, .slice Ao40 x165001_1.length co40, .slice Ao41 x165002_1.length co41] 92 (0, 0))) := ⟨h7_⟩
                      have n8_ : Aside0 (w46.heap[gb170]? = some (.cells #[.int .i64 t166, .bool t167] 31 (0, 0))) := ⟨h8_⟩
                      have n9_ : Aside0 (Below w.heap.size w w46) := ⟨h9_⟩
                      clear HO_165000
                      clear HO_165001
                      clear HO_165002
                      clear BK158
                      clear BK159
                      clear BK160
                      clear BK164
                      clear BK170
                      clear HB
                      clear h0_ h1_ h2_ h3_ h4_ h5_ h6_ h7_ h8_ h9_
                      have HO185 := n0_
                      have HO_165000 := n1_
                      have HO_165001 := n2_
                      have HO_165002 := n3_
                      have BK158 := n4_
                      have BK159 := n5_
                      have BK160 := n6_
                      have BK164 := n7_
                      have BK170 := n8_
                      have HB := n9_
                      clear n0_ n1_ n2_ n3_ n4_ n5_ n6_ n7_ n8_ n9_
                      have hHeld : w46.cell? ⟨gb164, 0, none⟩ = some (.slice Ao39 x165000_1.length co39) ∧ w46.cell? ⟨gb164, 1, none⟩ = some (.slice Ao40 x165001_1.length co40) ∧ w46.cell? ⟨gb164, 2, none⟩ = some (.slice Ao41 x165002_1.length co41) ∧ w46.cell? ⟨gb170, 0, none⟩ = some (.int .i64 t166) ∧ w46.cell? ⟨gb170, 1, none⟩ = some (.bool t167) := hS_
                      refine norm_ (a' := ?_) ?_ ?_
                      rotate_left
                      ·simp only [putAll, Act.put, List.setIfInBounds_toArray, List.set_cons_zero, List.set_cons_succ]
                       rfl
                      refine two_ (i := 3) (j := 8) (Ni := some 33) (Nj := some 38) #[true, true, true, true, false, true, true, true, false, false, true, true, true, true, false, false, false, false, false, false, false] #[true, true, true, false, false, true, true, true, true, false, true, true, true, true, false, false, false, false, false, false, false] rfl rfl rfl rfl (two_of HT_.out (by kernel_rfl)) (by decide) (by decide) (fun K hK => ?_) (fun K hK => ?_)
                      ·skip
                       refine Kd.R_lit_step k31 _ 31 ?hg (N := 33) ?hd (xs := ([(⟨t166, t167⟩ : S31)] : List (S31))) (inner := [.int .i64 t166, .bool t167]) (ok := fun _ => True) (okp := fun _ => True) ?hr ?hp (fun _ hk => hk) trivial (Below.refl _ _) (Nat.le_refl _) (by simp) ?_; (case hd => rfl); (case hg => rfl); (case hr => first | (go_simp; done) | (go_simp; rfl)); (case hp => exact (Reps.c2 (show Kd.M k31 _ _ _ (⟨t166, t167⟩ : S31) [.int .i64 t166, .bool t167] from (k31_mkM _ _ _ (⟨t166, t167⟩ : S31) )) (Reps.none _ _)))
                       intro v172 w47 ho48 hb hg_ hnew_
                       clear hg_ hnew_
                       (first | rw [← Ny171.out] at ho48 | (simp only [Int.reduceToNat] at ho48; rw [← Ny171.out] at ho48))
                       replace HO_165001 := xq HO_165001 hb
                       replace HO_165002 := xq HO_165002 hb
                       replace HO185 := xq HO185 hb
                       have HO173 := Aside0.mk (Kd.R_lower (Kd.R_newB (Kd.R_newB (Kd.R_new' ho48 (Kd.R_lt (xr HO_165000.out))) (g := gb159) (o := .cells #[.int .i64 x160000_1, .bool x160001_1] 31 (0, 0)) (xb BK159.out)) (g := gb170) (o := .cells #[.int .i64 t166, .bool t167] 31 (0, 0)) (xb BK170.out)) (below_size (xs HB.out)))
                       replace HO_165000 := Aside0.mk (Kd.R_elder' (xr HO_165000.out) (Kd.R_base ho48) hb)
                       replace BK158 := xk BK158 hb
                       replace BK159 := xk BK159 hb
                       replace BK160 := xk BK160 hb
                       replace BK164 := xk BK164 hb
                       replace BK170 := xk BK170 hb
                       replace HB := xp HB hb
                       clear hb ho48
                       refine hK.out _ _ ⟨(blk_cell BK164.out 0).trans rfl, (blk_cell BK164.out 1).trans rfl, (blk_cell BK164.out 2).trans rfl, (blk_cell BK170.out 0).trans rfl, (blk_cell BK170.out 1).trans rfl⟩ (fun hHeld => ?_)
                       clear hK K
                       refine norm_ (a' := ?_) ?_ ?_
                       rotate_left
                       ·show Act.put _ (some 33) _ = _
                        simp only [Act.put, List.setIfInBounds_toArray, List.set_cons_zero, List.set_cons_succ, i64_w, i32_w]
                        rfl
                       exact norm_ (by first | (simp only [putAll, Act.put, List.setIfInBounds_toArray, List.set_cons_zero, List.set_cons_succ]; done) | (simp only [putAll, Act.put, List.setIfInBounds_toArray, List.set_cons_zero, List.set_cons_succ]; rfl)) (hJ3_13 (v172, v184) _ ⟨hHeld, (xm HO173 (fun _ hk => ⟨hk.1.1.2, ⟨hk.1.2, hk.2⟩⟩)), (xr HO185.out), (xm HO_165000 (fun _ hk => ⟨hk.2, ⟨hk.1.1, hk.1.2⟩⟩)), (xr HO_165001.out), (xr HO_165002.out), (xb BK158.out), (xb BK159.out), (xb BK160.out), (xb BK164.out), (xb BK170.out), (xs HB.out)⟩)
                      ·skip
                       refine Kd.R_lit_step (Kd.int .i64) _ 3 ?hg (N := 38) ?hd (xs := ([t168] : List Int)) (inner := [.int .i64 t168]) (ok := fun _ => True) (okp := fun _ => True) ?hr ?hp (fun _ hk => hk) trivial (Below.refl _ _) (Nat.le_refl _) (by simp) ?_; (case hd => rfl); (case hg => rfl); (case hr => first | (go_simp; done) | (go_simp; rfl)); (case hp => exact (Reps.one (show Kd.M (Kd.int .i64) _ _ _ t168 [.int .i64 t168] from rfl) (Reps.none _ _)))
                       intro v178 w47 ho48 hb hg_ hnew_
                       clear hg_ hnew_
                       (first | rw [← Ny177.out] at ho48 | (simp only [Int.reduceToNat] at ho48; rw [← Ny177.out] at ho48))
                       replace HO_165000 := xq HO_165000 hb
                       have HO179 := Aside0.mk (Kd.R_lower (Kd.R_new' (Kd.R_new' (Kd.R_new' ho48 (Kd.R_lt (xr HO_165001.out))) (Kd.R_lt (xr HO_165002.out))) (Kd.R_lt (xr HO185.out))) (below_size (xs HB.out)))
                       replace HO_165001 := Aside0.mk (Kd.R_elder' (xr HO_165001.out) (Kd.R_base ho48) hb)
                       replace HO_165002 := Aside0.mk (Kd.R_elder' (xr HO_165002.out) (Kd.R_base ho48) hb)
                       replace HO185 := Aside0.mk (Kd.R_elder' (xr HO185.out) (Kd.R_base ho48) hb)
                       replace BK158 := xk BK158 hb
                       replace BK159 := xk BK159 hb
                       replace BK160 := xk BK160 hb
                       replace BK164 := xk BK164 hb
                       replace BK170 := xk BK170 hb
                       replace HB := xp HB hb
                       clear hb ho48
                       refine hK.out _ _ ⟨(blk_cell BK164.out 0).trans rfl, (blk_cell BK164.out 1).trans rfl, (blk_cell BK164.out 2).trans rfl, (blk_cell BK170.out 0).trans rfl, (blk_cell BK170.out 1).trans rfl⟩ (fun hHeld => ?_)
                       clear hK K
                       refine norm_ (a' := ?_) ?_ ?_
                       rotate_left
                       ·show Act.put _ (some 38) _ = _
                        simp only [Act.put, List.setIfInBounds_toArray, List.set_cons_zero, List.set_cons_succ, i64_w, i32_w]
                        rfl
                       exact norm_ (by first | (simp only [putAll, Act.put, List.setIfInBounds_toArray, List.set_cons_zero, List.set_cons_succ]; done) | (simp only [putAll, Act.put, List.setIfInBounds_toArray, List.set_cons_zero, List.set_cons_succ]; rfl)) (hJ8_13 (v178, v184) _ ⟨hHeld, (xm HO179 (fun _ hk => ⟨hk.2, ⟨hk.1.1.2, hk.1.2⟩⟩)), (xm HO185 (fun _ hk => ⟨hk.2, ⟨hk.1.1, hk.1.2⟩⟩)), (xr HO_165000.out), (xm HO_165001 (fun _ hk => ⟨hk.2, ⟨hk.1.1, hk.1.2⟩⟩)), (xm HO_165002 (fun _ hk => ⟨hk.2, ⟨hk.1.1, hk.1.2⟩⟩)), (xb BK158.out), (xb BK159.out), (xb BK160.out), (xb BK164.out), (xb BK170.out), (xs HB.out)⟩)
                    ·skip
                     rintro v178 w46 ⟨hS_, h0_, h1_, h2_, h3_, h4_, h5_, h6_, h7_, h8_, h9_⟩
                     have n0_ : Aside0 (Kd.R (Kd.int .i64) 3 w46 w.heap.size (fun k_ => nS k_ Ao40 x165001_1.length co40 ∧ nS k_ Ao41 x165002_1.length co41) v178 y177) := ⟨h0_⟩
                     have n1_ : Aside0 (Kd.R k31 31 w46 w.heap.size (fun k_ => k_ ≠ gb159 ∧ k_ ≠ gb170) (.slice Ao39 x165000_1.length co39) x165000_1) := ⟨h1_⟩
                     have n2_ : Aside0 (Kd.R (Kd.int .i64) 3 w46 w.heap.size (fun k_ => nV k_ v178 ∧ nS k_ Ao41 x165002_1.length co41) (.slice Ao40 x165001_1.length co40) x165001_1) := ⟨h2_⟩
                     have n3_ : Aside0 (Kd.R (Kd.int .i64) 3 w46 w.heap.size (fun k_ => nV k_ v178 ∧ nS k_ Ao40 x165001_1.length co40) (.slice Ao41 x165002_1.length co41) x165002_1) := ⟨h3_⟩
                     have n4_ : Aside0 (w46.heap[gb158]? = some (.cells #[.int .i64 a0_0, .int .i64 a0_1, .int .i64 a0_2, .int .i64 a0_3] 29 (0, 0))) := ⟨h4_⟩
                     have n5_ : Aside0 (w46.heap[gb159]? = some (.cells #[.int .i64 x160000_1, .bool x160001_1] 31 (0, 0))) := ⟨h5_⟩
                     have n6_ : Aside0 (w46.heap[gb160]? = some (.cells #[.slice none 0 0, .slice none 0 0, .slice none 0 0] 92 (0, 0))) := ⟨h6_⟩
                     have n7_ : Aside0 (w46.heap[gb164]? = some (.cells #[.slice Ao39 x165000_1.length co39, .slice Ao40 x165001_1.length co40, .slice Ao41 x165002_1.length co41] 92 (0, 0))) := ⟨h7_⟩
                     have n8_ : Aside0 (w46.heap[gb170]? = some (.cells #[.int .i64 t166, .bool t167] 31 (0, 0))) := ⟨h8_⟩
                     have n9_ : Aside0 (Below w.heap.size w w46) := ⟨h9_⟩
                     clear HO_165000
                     clear HO_165001
                     clear HO_165002
                     clear BK158
                     clear BK159
                     clear BK160
                     clear BK164
                     clear BK170
                     clear HB
                     clear h0_ h1_ h2_ h3_ h4_ h5_ h6_ h7_ h8_ h9_
                     have HO179 := n0_
                     have HO_165000 := n1_
                     have HO_165001 := n2_
                     have HO_165002 := n3_
                     have BK158 := n4_
                     have BK159 := n5_
                     have BK160 := n6_
                     have BK164 := n7_
                     have BK170 := n8_
                     have HB := n9_
                     clear n0_ n1_ n2_ n3_ n4_ n5_ n6_ n7_ n8_ n9_
                     have hHeld : w46.cell? ⟨gb164, 0, none⟩ = some (.slice Ao39 x165000_1.length co39) ∧ w46.cell? ⟨gb164, 1, none⟩ = some (.slice Ao40 x165001_1.length co40) ∧ w46.cell? ⟨gb164, 2, none⟩ = some (.slice Ao41 x165002_1.length co41) ∧ w46.cell? ⟨gb170, 0, none⟩ = some (.int .i64 t166) ∧ w46.cell? ⟨gb170, 1, none⟩ = some (.bool t167) := hS_
                     refine norm_ (a' := ?_) ?_ ?_
                     rotate_left
                     ·simp only [putAll, Act.put, List.setIfInBounds_toArray, List.set_cons_zero, List.set_cons_succ]
                      rfl
                     refine two_ (i := 3) (j := 13) (Ni := some 33) (Nj := some 43) #[true, true, true, true, false, true, true, true, true, false, true, true, true, false, false, false, false, false, false, false, false] #[true, true, true, false, false, true, true, true, true, false, true, true, true, true, false, false, false, false, false, false, false] rfl rfl rfl rfl (two_of HT_.out (by kernel_rfl)) (by decide) (by decide) (fun K hK => ?_) (fun K hK => ?_)
                     ·skip
                      refine Kd.R_lit_step k31 _ 31 ?hg (N := 33) ?hd (xs := ([(⟨t166, t167⟩ : S31)] : List (S31))) (inner := [.int .i64 t166, .bool t167]) (ok := fun _ => True) (okp := fun _ => True) ?hr ?hp (fun _ hk => hk) trivial (Below.refl _ _) (Nat.le_refl _) (by simp) ?_; (case hd => rfl); (case hg => rfl); (case hr => first | (go_simp; done) | (go_simp; rfl)); (case hp => exact (Reps.c2 (show Kd.M k31 _ _ _ (⟨t166, t167⟩ : S31) [.int .i64 t166, .bool t167] from (k31_mkM _ _ _ (⟨t166, t167⟩ : S31) )) (Reps.none _ _)))
                      intro v172 w47 ho48 hb hg_ hnew_
                      clear hg_ hnew_
                      (first | rw [← Ny171.out] at ho48 | (simp only [Int.reduceToNat] at ho48; rw [← Ny171.out] at ho48))
                      replace HO_165001 := xq HO_165001 hb
                      replace HO_165002 := xq HO_165002 hb
                      replace HO179 := xq HO179 hb
                      have HO173 := Aside0.mk (Kd.R_lower (Kd.R_newB (Kd.R_newB (Kd.R_new' ho48 (Kd.R_lt (xr HO_165000.out))) (g := gb159) (o := .cells #[.int .i64 x160000_1, .bool x160001_1] 31 (0, 0)) (xb BK159.out)) (g := gb170) (o := .cells #[.int .i64 t166, .bool t167] 31 (0, 0)) (xb BK170.out)) (below_size (xs HB.out)))
                      replace HO_165000 := Aside0.mk (Kd.R_elder' (xr HO_165000.out) (Kd.R_base ho48) hb)
                      replace BK158 := xk BK158 hb
                      replace BK159 := xk BK159 hb
                      replace BK160 := xk BK160 hb
                      replace BK164 := xk BK164 hb
                      replace BK170 := xk BK170 hb
                      replace HB := xp HB hb
                      clear hb ho48
                      refine hK.out _ _ ⟨(blk_cell BK164.out 0).trans rfl, (blk_cell BK164.out 1).trans rfl, (blk_cell BK164.out 2).trans rfl, (blk_cell BK170.out 0).trans rfl, (blk_cell BK170.out 1).trans rfl⟩ (fun hHeld => ?_)
                      clear hK K
                      refine norm_ (a' := ?_) ?_ ?_
                      rotate_left
                      ·show Act.put _ (some 33) _ = _
                       simp only [Act.put, List.setIfInBounds_toArray, List.set_cons_zero, List.set_cons_succ, i64_w, i32_w]
                       rfl
                      exact norm_ (by first | (simp only [putAll, Act.put, List.setIfInBounds_toArray, List.set_cons_zero, List.set_cons_succ]; done) | (simp only [putAll, Act.put, List.setIfInBounds_toArray, List.set_cons_zero, List.set_cons_succ]; rfl)) (hJ3_8 (v172, v178) _ ⟨hHeld, (xm HO173 (fun _ hk => ⟨hk.1.1.2, ⟨hk.1.2, hk.2⟩⟩)), (xr HO179.out), (xm HO_165000 (fun _ hk => ⟨hk.2, ⟨hk.1.1, hk.1.2⟩⟩)), (xr HO_165001.out), (xr HO_165002.out), (xb BK158.out), (xb BK159.out), (xb BK160.out), (xb BK164.out), (xb BK170.out), (xs HB.out)⟩)
                     ·skip
                      refine Kd.R_lit_step (Kd.int .i64) _ 3 ?hg (N := 43) ?hd (xs := ([t169] : List Int)) (inner := [.int .i64 t169]) (ok := fun _ => True) (okp := fun _ => True) ?hr ?hp (fun _ hk => hk) trivial (Below.refl _ _) (Nat.le_refl _) (by simp) ?_; (case hd => rfl); (case hg => rfl); (case hr => first | (go_simp; done) | (go_simp; rfl)); (case hp => exact (Reps.one (show Kd.M (Kd.int .i64) _ _ _ t169 [.int .i64 t169] from rfl) (Reps.none _ _)))
                      intro v184 w47 ho48 hb hg_ hnew_
                      clear hg_ hnew_
                      (first | rw [← Ny183.out] at ho48 | (simp only [Int.reduceToNat] at ho48; rw [← Ny183.out] at ho48))
                      replace HO_165000 := xq HO_165000 hb
                      have HO185 := Aside0.mk (Kd.R_lower (Kd.R_new' (Kd.R_new' (Kd.R_new' ho48 (Kd.R_lt (xr HO_165001.out))) (Kd.R_lt (xr HO_165002.out))) (Kd.R_lt (xr HO179.out))) (below_size (xs HB.out)))
                      replace HO_165001 := Aside0.mk (Kd.R_elder' (xr HO_165001.out) (Kd.R_base ho48) hb)
                      replace HO_165002 := Aside0.mk (Kd.R_elder' (xr HO_165002.out) (Kd.R_base ho48) hb)
                      replace HO179 := Aside0.mk (Kd.R_elder' (xr HO179.out) (Kd.R_base ho48) hb)
                      replace BK158 := xk BK158 hb
                      replace BK159 := xk BK159 hb
                      replace BK160 := xk BK160 hb
                      replace BK164 := xk BK164 hb
                      replace BK170 := xk BK170 hb
                      replace HB := xp HB hb
                      clear hb ho48
                      refine hK.out _ _ ⟨(blk_cell BK164.out 0).trans rfl, (blk_cell BK164.out 1).trans rfl, (blk_cell BK164.out 2).trans rfl, (blk_cell BK170.out 0).trans rfl, (blk_cell BK170.out 1).trans rfl⟩ (fun hHeld => ?_)
                      clear hK K
                      refine norm_ (a' := ?_) ?_ ?_
                      rotate_left
                      ·show Act.put _ (some 43) _ = _
                       simp only [Act.put, List.setIfInBounds_toArray, List.set_cons_zero, List.set_cons_succ, i64_w, i32_w]
                       rfl
                      exact norm_ (by first | (simp only [putAll, Act.put, List.setIfInBounds_toArray, List.set_cons_zero, List.set_cons_succ]; done) | (simp only [putAll, Act.put, List.setIfInBounds_toArray, List.set_cons_zero, List.set_cons_succ]; rfl)) (hJ8_13 (v178, v184) _ ⟨hHeld, (xm HO179 (fun _ hk => ⟨hk.2, ⟨hk.1.1, hk.1.2⟩⟩)), (xm HO185 (fun _ hk => ⟨hk.2, ⟨hk.1.1.2, hk.1.2⟩⟩)), (xr HO_165000.out), (xm HO_165001 (fun _ hk => ⟨hk.1.1, ⟨hk.2, hk.1.2⟩⟩)), (xm HO_165002 (fun _ hk => ⟨hk.1.1, ⟨hk.2, hk.1.2⟩⟩)), (xb BK158.out), (xb BK159.out), (xb BK160.out), (xb BK164.out), (xb BK170.out), (xs HB.out)⟩)
                   ·skip
                    rintro v172 w46 ⟨hS_, h0_, h1_, h2_, h3_, h4_, h5_, h6_, h7_, h8_, h9_⟩
                    have n0_ : Aside0 (Kd.R k31 31 w46 w.heap.size (fun k_ => nS k_ Ao39 x165000_1.length co39 ∧ k_ ≠ gb159 ∧ k_ ≠ gb170) v172 y171) := ⟨h0_⟩
                    have n1_ : Aside0 (Kd.R k31 31 w46 w.heap.size (fun k_ => nV k_ v172 ∧ k_ ≠ gb159 ∧ k_ ≠ gb170) (.slice Ao39 x165000_1.length co39) x165000_1) := ⟨h1_⟩
                    have n2_ : Aside0 (Kd.R (Kd.int .i64) 3 w46 w.heap.size (fun k_ => nS k_ Ao41 x165002_1.length co41) (.slice Ao40 x165001_1.length co40) x165001_1) := ⟨h2_⟩
                    have n3_ : Aside0 (Kd.R (Kd.int .i64) 3 w46 w.heap.size (fun k_ => nS k_ Ao40 x165001_1.length co40) (.slice Ao41 x165002_1.length co41) x165002_1) := ⟨h3_⟩
                    have n4_ : Aside0 (w46.heap[gb158]? = some (.cells #[.int .i64 a0_0, .int .i64 a0_1, .int .i64 a0_2, .int .i64 a0_3] 29 (0, 0))) := ⟨h4_⟩
                    have n5_ : Aside0 (w46.heap[gb159]? = some (.cells #[.int .i64 x160000_1, .bool x160001_1] 31 (0, 0))) := ⟨h5_⟩
                    have n6_ : Aside0 (w46.heap[gb160]? = some (.cells #[.slice none 0 0, .slice none 0 0, .slice none 0 0] 92 (0, 0))) := ⟨h6_⟩
                    have n7_ : Aside0 (w46.heap[gb164]? = some (.cells #[.slice Ao39 x165000_1.length co39, .slice Ao40 x165001_1.length co40, .slice Ao41 x165002_1.length co41] 92 (0, 0))) := ⟨h7_⟩
                    have n8_ : Aside0 (w46.heap[gb170]? = some (.cells #[.int .i64 t166, .bool t167] 31 (0, 0))) := ⟨h8_⟩
                    have n9_ : Aside0 (Below w.heap.size w w46) := ⟨h9_⟩
                    clear HO_165000
                    clear HO_165001
                    clear HO_165002
                    clear BK158
                    clear BK159
                    clear BK160
                    clear BK164
                    clear BK170
                    clear HB
                    clear h0_ h1_ h2_ h3_ h4_ h5_ h6_ h7_ h8_ h9_
                    have HO173 := n0_
                    have HO_165000 := n1_
                    have HO_165001 := n2_
                    have HO_165002 := n3_
                    have BK158 := n4_
                    have BK159 := n5_
                    have BK160 := n6_
                    have BK164 := n7_
                    have BK170 := n8_
                    have HB := n9_
                    clear n0_ n1_ n2_ n3_ n4_ n5_ n6_ n7_ n8_ n9_
                    have hHeld : w46.cell? ⟨gb164, 0, none⟩ = some (.slice Ao39 x165000_1.length co39) ∧ w46.cell? ⟨gb164, 1, none⟩ = some (.slice Ao40 x165001_1.length co40) ∧ w46.cell? ⟨gb164, 2, none⟩ = some (.slice Ao41 x165002_1.length co41) ∧ w46.cell? ⟨gb170, 0, none⟩ = some (.int .i64 t166) ∧ w46.cell? ⟨gb170, 1, none⟩ = some (.bool t167) := hS_
                    obtain ⟨Ao48, co48, eo48⟩ := Kd.R_slice HO173.out
                    (first | subst eo48 | (injection eo48 with f1_ f2_ f3_; have f4_ := f1_.symm; have f5_ := f3_.symm; clear f1_ f2_ f3_; subst f4_; subst f5_))
                    refine norm_ (a' := ?_) ?_ ?_
                    rotate_left
                    ·simp only [putAll, Act.put, List.setIfInBounds_toArray, List.set_cons_zero, List.set_cons_succ]
                     rfl
                    refine three_ (i := 4) (j := 8) (k := 13) (Ni := some 34) (Nj := some 38) (Nk := some 43) #[true, true, true, true, true, true, true, true, false, false, true, true, true, false, false, false, false, false, false, false, false] #[true, true, true, true, false, true, true, true, true, false, true, true, true, false, false, false, false, false, false, false, false] #[true, true, true, true, false, true, true, true, false, false, true, true, true, true, false, false, false, false, false, false, false] rfl rfl rfl rfl rfl rfl (three_of HT_.out (by kernel_rfl)) (by decide) (by decide) (by decide) (fun K hK => ?_) (fun K hK => ?_) (fun K hK => ?_)
                    ·skip
                     refine Kd.R_append_rows_step k31 (w0 := w) w.heap.size (by rfl) (.tmp 31) (.tmp 33) 39 31 (.agg #[(.int .i64 0), (.bool false)]) 16 rfl Try.underlying39 info31 rfl (by decide) (by omega) (.slice Ao39 x165000_1.length co39) x165000_1 y171 _ _ _ (fun k_ => nS k_ Ao48 y171.length co48 ∧ k_ ≠ gb159 ∧ k_ ≠ gb170) (fun _ => False) rfl rfl ?aO ?aR (fun _ _ h => h) (fun _ h => h.elim) ?aF ?aB ?aS ?aL ?_
                     (case aR => exact xd ((Kd.R_reads' HO173.out).2.2))
                     (case aB => exact (xs HB.out))
                     (case aF => exact (fun k_ hk => ⟨Kd.fresh' (Kd.R_lt (xr HO173.out)) k_ hk, Kd.freshB (g := gb159) (o := .cells #[.int .i64 x160000_1, .bool x160001_1] 31 (0, 0)) (xb BK159.out) k_ hk, Kd.freshB (g := gb170) (o := .cells #[.int .i64 t166, .bool t167] 31 (0, 0)) (xb BK170.out) k_ hk⟩))
                     (case aO => exact (xr HO_165000.out))
                     (case aS => exact (below_size (xs HB.out)))
                     (case aL => have := LMc22.out; omega)
                     intro v175 w47 ho hb hg hat
                     rw [← Ny174.out] at ho
                     replace HO_165001 := Aside0.mk (Kd.R_over' (xr HO_165001.out) (Kd.R_typed (xr HO_165000.out)) (by decide) hg)
                     replace HO_165002 := Aside0.mk (Kd.R_over' (xr HO_165002.out) (Kd.R_typed (xr HO_165000.out)) (by decide) hg)
                     replace BK158 := Aside0.mk (blk_grown (g := gb158) (o := .cells #[.int .i64 a0_0, .int .i64 a0_1, .int .i64 a0_2, .int .i64 a0_3] 29 (0, 0)) (xb BK158.out) hg (Kd.R_ne HO_165000.out BK158.out (by decide)))
                     replace BK159 := Aside0.mk (blk_grown (g := gb159) (o := .cells #[.int .i64 x160000_1, .bool x160001_1] 31 (0, 0)) (xb BK159.out) hg (Kd.R_away HO_165000.out (fun _ hk => hk.2.1)))
                     replace BK160 := Aside0.mk (blk_grown (g := gb160) (o := .cells #[.slice none 0 0, .slice none 0 0, .slice none 0 0] 92 (0, 0)) (xb BK160.out) hg (Kd.R_ne HO_165000.out BK160.out (by decide)))
                     replace BK164 := Aside0.mk (blk_grown (g := gb164) (o := .cells #[.slice Ao39 x165000_1.length co39, .slice Ao40 x165001_1.length co40, .slice Ao41 x165002_1.length co41] 92 (0, 0)) (xb BK164.out) hg (Kd.R_ne HO_165000.out BK164.out (by decide)))
                     replace BK170 := Aside0.mk (blk_grown (g := gb170) (o := .cells #[.int .i64 t166, .bool t167] 31 (0, 0)) (xb BK170.out) hg (Kd.R_away HO_165000.out (fun _ hk => hk.2.2)))
                     replace HO173 := Aside0.mk (Kd.R_after (ok := (fun k_ => k_ ≠ gb159 ∧ k_ ≠ gb170)) (xm HO173 (fun _ hk => ⟨⟨hk.2.1, hk.2.2⟩, hk.1⟩)) hg hat)
                     replace HB := Aside0.mk (hb)
                     have HO176 := Aside0.mk (ho)
                     clear HO_165000
                     clear ho hb hg hat
                     refine hK.out _ _ ⟨(blk_cell BK164.out 0).trans rfl, (blk_cell BK164.out 1).trans rfl, (blk_cell BK164.out 2).trans rfl, (blk_cell BK170.out 0).trans rfl, (blk_cell BK170.out 1).trans rfl⟩ (fun hHeld => ?_)
                     clear hK K
                     refine norm_ (a' := ?_) ?_ ?_
                     rotate_left
                     ·show Act.put _ (some 34) _ = _
                      simp only [Act.put, List.setIfInBounds_toArray, List.set_cons_zero, List.set_cons_succ, i64_w, i32_w]
                      rfl
                     refine pure_ (i := 15) (N := some 45) (v := ?_) (a' := ?_) #[true, true, true, true, true, true, true, true, false, false, true, true, true, false, false, true, false, false, false, false, false] rfl rfl (any_of HT_.out (by kernel_rfl)) (fun _ _ _ h => h) (Or.inl ⟨by rfl, ?_⟩) ?_ ?_
                     rotate_left
                     ·intro w'
                      go_simp
                      with_reducible rfl
                     rotate_left
                     ·simp only [Act.put, List.setIfInBounds_toArray, List.set_cons_zero, List.set_cons_succ, i64_w, i32_w]
                      rfl
                     exact norm_ (by first | (simp only [putAll, Act.put, List.setIfInBounds_toArray, List.set_cons_zero, List.set_cons_succ]; done) | (simp only [putAll, Act.put, List.setIfInBounds_toArray, List.set_cons_zero, List.set_cons_succ]; rfl)) (hJ3_4 (.slice Ao48 y171.length co48, v175) _ ⟨hHeld, (xm HO173 (fun _ hk => ⟨hk.2, ⟨hk.1.1, hk.1.2⟩⟩)), (xr HO176.out), (xr HO_165001.out), (xr HO_165002.out), (xb BK158.out), (xb BK159.out), (xb BK160.out), (xb BK164.out), (xb BK170.out), (xs HB.out)⟩)
                    ·skip
                     refine Kd.R_lit_step (Kd.int .i64) _ 3 ?hg (N := 38) ?hd (xs := ([t168] : List Int)) (inner := [.int .i64 t168]) (ok := fun _ => True) (okp := fun _ => True) ?hr ?hp (fun _ hk => hk) trivial (Below.refl _ _) (Nat.le_refl _) (by simp) ?_; (case hd => rfl); (case hg => rfl); (case hr => first | (go_simp; done) | (go_simp; rfl)); (case hp => exact (Reps.one (show Kd.M (Kd.int .i64) _ _ _ t168 [.int .i64 t168] from rfl) (Reps.none _ _)))
                     intro v178 w47 ho48 hb hg_ hnew_
                     clear hg_ hnew_
                     (first | rw [← Ny177.out] at ho48 | (simp only [Int.reduceToNat] at ho48; rw [← Ny177.out] at ho48))
                     replace HO_165000 := xq HO_165000 hb
                     replace HO173 := xq HO173 hb
                     have HO179 := Aside0.mk (Kd.R_lower (Kd.R_new' (Kd.R_new' ho48 (Kd.R_lt (xr HO_165001.out))) (Kd.R_lt (xr HO_165002.out))) (below_size (xs HB.out)))
                     replace HO_165001 := Aside0.mk (Kd.R_elder' (xr HO_165001.out) (Kd.R_base ho48) hb)
                     replace HO_165002 := Aside0.mk (Kd.R_elder' (xr HO_165002.out) (Kd.R_base ho48) hb)
                     replace BK158 := xk BK158 hb
                     replace BK159 := xk BK159 hb
                     replace BK160 := xk BK160 hb
                     replace BK164 := xk BK164 hb
                     replace BK170 := xk BK170 hb
                     replace HB := xp HB hb
                     clear hb ho48
                     refine hK.out _ _ ⟨(blk_cell BK164.out 0).trans rfl, (blk_cell BK164.out 1).trans rfl, (blk_cell BK164.out 2).trans rfl, (blk_cell BK170.out 0).trans rfl, (blk_cell BK170.out 1).trans rfl⟩ (fun hHeld => ?_)
                     clear hK K
                     refine norm_ (a' := ?_) ?_ ?_
                     rotate_left
                     ·show Act.put _ (some 38) _ = _
                      simp only [Act.put, List.setIfInBounds_toArray, List.set_cons_zero, List.set_cons_succ, i64_w, i32_w]
                      rfl
                     exact norm_ (by first | (simp only [putAll, Act.put, List.setIfInBounds_toArray, List.set_cons_zero, List.set_cons_succ]; done) | (simp only [putAll, Act.put, List.setIfInBounds_toArray, List.set_cons_zero, List.set_cons_succ]; rfl)) (hJ3_8 (.slice Ao48 y171.length co48, v178) _ ⟨hHeld, (xr HO173.out), (xm HO179 (fun _ hk => ⟨hk.1.2, hk.2⟩)), (xr HO_165000.out), (xm HO_165001 (fun _ hk => ⟨hk.2, hk.1⟩)), (xm HO_165002 (fun _ hk => ⟨hk.2, hk.1⟩)), (xb BK158.out), (xb BK159.out), (xb BK160.out), (xb BK164.out), (xb BK170.out), (xs HB.out)⟩)
                    ·skip
                     refine Kd.R_lit_step (Kd.int .i64) _ 3 ?hg (N := 43) ?hd (xs := ([t169] : List Int)) (inner := [.int .i64 t169]) (ok := fun _ => True) (okp := fun _ => True) ?hr ?hp (fun _ hk => hk) trivial (Below.refl _ _) (Nat.le_refl _) (by simp) ?_; (case hd => rfl); (case hg => rfl); (case hr => first | (go_simp; done) | (go_simp; rfl)); (case hp => exact (Reps.one (show Kd.M (Kd.int .i64) _ _ _ t169 [.int .i64 t169] from rfl) (Reps.none _ _)))
                     intro v184 w47 ho48 hb hg_ hnew_
                     clear hg_ hnew_
                     (first | rw [← Ny183.out] at ho48 | (simp only [Int.reduceToNat] at ho48; rw [← Ny183.out] at ho48))
                     replace HO_165000 := xq HO_165000 hb
                     replace HO173 := xq HO173 hb
                     have HO185 := Aside0.mk (Kd.R_lower (Kd.R_new' (Kd.R_new' ho48 (Kd.R_lt (xr HO_165001.out))) (Kd.R_lt (xr HO_165002.out))) (below_size (xs HB.out)))
                     replace HO_165001 := Aside0.mk (Kd.R_elder' (xr HO_165001.out) (Kd.R_base ho48) hb)
                     replace HO_165002 := Aside0.mk (Kd.R_elder' (xr HO_165002.out) (Kd.R_base ho48) hb)
                     replace BK158 := xk BK158 hb
                     replace BK159 := xk BK159 hb
                     replace BK160 := xk BK160 hb
                     replace BK164 := xk BK164 hb
                     replace BK170 := xk BK170 hb
                     replace HB := xp HB hb
                     clear hb ho48
                     refine hK.out _ _ ⟨(blk_cell BK164.out 0).trans rfl, (blk_cell BK164.out 1).trans rfl, (blk_cell BK164.out 2).trans rfl, (blk_cell BK170.out 0).trans rfl, (blk_cell BK170.out 1).trans rfl⟩ (fun hHeld => ?_)
                     clear hK K
                     refine norm_ (a' := ?_) ?_ ?_
                     rotate_left
                     ·show Act.put _ (some 43) _ = _
                      simp only [Act.put, List.setIfInBounds_toArray, List.set_cons_zero, List.set_cons_succ, i64_w, i32_w]
                      rfl
                     exact norm_ (by first | (simp only [putAll, Act.put, List.setIfInBounds_toArray, List.set_cons_zero, List.set_cons_succ]; done) | (simp only [putAll, Act.put, List.setIfInBounds_toArray, List.set_cons_zero, List.set_cons_succ]; rfl)) (hJ3_13 (.slice Ao48 y171.length co48, v184) _ ⟨hHeld, (xr HO173.out), (xm HO185 (fun _ hk => ⟨hk.1.2, hk.2⟩)), (xr HO_165000.out), (xm HO_165001 (fun _ hk => ⟨hk.2, hk.1⟩)), (xm HO_165002 (fun _ hk => ⟨hk.2, hk.1⟩)), (xb BK158.out), (xb BK159.out), (xb BK160.out), (xb BK164.out), (xb BK170.out), (xs HB.out)⟩)
                  ·skip
                   rintro ⟨v178, v184⟩ w48 ⟨hS_, h0_, h1_, h2_, h3_, h4_, h5_, h6_, h7_, h8_, h9_, h10_⟩
                   have n0_ : Aside0 (Kd.R (Kd.int .i64) 3 w48 w.heap.size (fun k_ => nV k_ v184 ∧ nS k_ Ao40 x165001_1.length co40 ∧ nS k_ Ao41 x165002_1.length co41) v178 y177) := ⟨h0_⟩
                   have n1_ : Aside0 (Kd.R (Kd.int .i64) 3 w48 w.heap.size (fun k_ => nV k_ v178 ∧ nS k_ Ao40 x165001_1.length co40 ∧ nS k_ Ao41 x165002_1.length co41) v184 y183) := ⟨h1_⟩
                   have n2_ : Aside0 (Kd.R k31 31 w48 w.heap.size (fun k_ => k_ ≠ gb159 ∧ k_ ≠ gb170) (.slice Ao39 x165000_1.length co39) x165000_1) := ⟨h2_⟩
                   have n3_ : Aside0 (Kd.R (Kd.int .i64) 3 w48 w.heap.size (fun k_ => nV k_ v178 ∧ nV k_ v184 ∧ nS k_ Ao41 x165002_1.length co41) (.slice Ao40 x165001_1.length co40) x165001_1) := ⟨h3_⟩
                   have n4_ : Aside0 (Kd.R (Kd.int .i64) 3 w48 w.heap.size (fun k_ => nV k_ v178 ∧ nV k_ v184 ∧ nS k_ Ao40 x165001_1.length co40) (.slice Ao41 x165002_1.length co41) x165002_1) := ⟨h4_⟩
                   have n5_ : Aside0 (w48.heap[gb158]? = some (.cells #[.int .i64 a0_0, .int .i64 a0_1, .int .i64 a0_2, .int .i64 a0_3] 29 (0, 0))) := ⟨h5_⟩
                   have n6_ : Aside0 (w48.heap[gb159]? = some (.cells #[.int .i64 x160000_1, .bool x160001_1] 31 (0, 0))) := ⟨h6_⟩
                   have n7_ : Aside0 (w48.heap[gb160]? = some (.cells #[.slice none 0 0, .slice none 0 0, .slice none 0 0] 92 (0, 0))) := ⟨h7_⟩
                   have n8_ : Aside0 (w48.heap[gb164]? = some (.cells #[.slice Ao39 x165000_1.length co39, .slice Ao40 x165001_1.length co40, .slice Ao41 x165002_1.length co41] 92 (0, 0))) := ⟨h8_⟩
                   have n9_ : Aside0 (w48.heap[gb170]? = some (.cells #[.int .i64 t166, .bool t167] 31 (0, 0))) := ⟨h9_⟩
                   have n10_ : Aside0 (Below w.heap.size w w48) := ⟨h10_⟩
                   clear HO_165000
                   clear HO_165001
                   clear HO_165002
                   clear BK158
                   clear BK159
                   clear BK160
                   clear BK164
                   clear BK170
                   clear HB
                   clear h0_ h1_ h2_ h3_ h4_ h5_ h6_ h7_ h8_ h9_ h10_
                   have HO179 := n0_
                   have HO185 := n1_
                   have HO_165000 := n2_
                   have HO_165001 := n3_
                   have HO_165002 := n4_
                   have BK158 := n5_
                   have BK159 := n6_
                   have BK160 := n7_
                   have BK164 := n8_
                   have BK170 := n9_
                   have HB := n10_
                   clear n0_ n1_ n2_ n3_ n4_ n5_ n6_ n7_ n8_ n9_ n10_
                   have hHeld : w48.cell? ⟨gb164, 0, none⟩ = some (.slice Ao39 x165000_1.length co39) ∧ w48.cell? ⟨gb164, 1, none⟩ = some (.slice Ao40 x165001_1.length co40) ∧ w48.cell? ⟨gb164, 2, none⟩ = some (.slice Ao41 x165002_1.length co41) ∧ w48.cell? ⟨gb170, 0, none⟩ = some (.int .i64 t166) ∧ w48.cell? ⟨gb170, 1, none⟩ = some (.bool t167) := hS_
                   refine norm_ (a' := ?_) ?_ ?_
                   rotate_left
                   ·simp only [putAll, Act.put, List.setIfInBounds_toArray, List.set_cons_zero, List.set_cons_succ]
                    rfl
                   refine one_ (i := 3) (N := some 33) #[true, true, true, true, false, true, true, true, true, false, true, true, true, true, false, false, false, false, false, false, false] rfl rfl (one_of HT_.out (by kernel_rfl)) (by decide) (fun K hK => ?_)
                   refine Kd.R_lit_step k31 _ 31 ?hg (N := 33) ?hd (xs := ([(⟨t166, t167⟩ : S31)] : List (S31))) (inner := [.int .i64 t166, .bool t167]) (ok := fun _ => True) (okp := fun _ => True) ?hr ?hp (fun _ hk => hk) trivial (Below.refl _ _) (Nat.le_refl _) (by simp) ?_; (case hd => rfl); (case hg => rfl); (case hr => first | (go_simp; done) | (go_simp; rfl)); (case hp => exact (Reps.c2 (show Kd.M k31 _ _ _ (⟨t166, t167⟩ : S31) [.int .i64 t166, .bool t167] from (k31_mkM _ _ _ (⟨t166, t167⟩ : S31) )) (Reps.none _ _)))
                   intro v172 w49 ho50 hb hg_ hnew_
                   clear hg_ hnew_
                   (first | rw [← Ny171.out] at ho50 | (simp only [Int.reduceToNat] at ho50; rw [← Ny171.out] at ho50))
                   replace HO_165001 := xq HO_165001 hb
                   replace HO_165002 := xq HO_165002 hb
                   replace HO179 := xq HO179 hb
                   replace HO185 := xq HO185 hb
                   have HO173 := Aside0.mk (Kd.R_lower (Kd.R_newB (Kd.R_newB (Kd.R_new' ho50 (Kd.R_lt (xr HO_165000.out))) (g := gb159) (o := .cells #[.int .i64 x160000_1, .bool x160001_1] 31 (0, 0)) (xb BK159.out)) (g := gb170) (o := .cells #[.int .i64 t166, .bool t167] 31 (0, 0)) (xb BK170.out)) (below_size (xs HB.out)))
                   replace HO_165000 := Aside0.mk (Kd.R_elder' (xr HO_165000.out) (Kd.R_base ho50) hb)
                   replace BK158 := xk BK158 hb
                   replace BK159 := xk BK159 hb
                   replace BK160 := xk BK160 hb
                   replace BK164 := xk BK164 hb
                   replace BK170 := xk BK170 hb
                   replace HB := xp HB hb
                   clear hb ho50
                   refine hK.out _ _ ⟨(blk_cell BK164.out 0).trans rfl, (blk_cell BK164.out 1).trans rfl, (blk_cell BK164.out 2).trans rfl, (blk_cell BK170.out 0).trans rfl, (blk_cell BK170.out 1).trans rfl⟩ (fun hHeld => ?_)
                   clear hK K
                   refine norm_ (a' := ?_) ?_ ?_
                   rotate_left
                   ·show Act.put _ (some 33) _ = _
                    simp only [Act.put, List.setIfInBounds_toArray, List.set_cons_zero, List.set_cons_succ, i64_w, i32_w]
                    rfl
                   exact norm_ (by first | (simp only [putAll, Act.put, List.setIfInBounds_toArray, List.set_cons_zero, List.set_cons_succ]; done) | (simp only [putAll, Act.put, List.setIfInBounds_toArray, List.set_cons_zero, List.set_cons_succ]; rfl)) (hJ3_8_13 (v172, v178, v184) _ ⟨hHeld, (xm HO173 (fun _ hk => ⟨hk.1.1.2, ⟨hk.1.2, hk.2⟩⟩)), (xr HO179.out), (xr HO185.out), (xm HO_165000 (fun _ hk => ⟨hk.2, ⟨hk.1.1, hk.1.2⟩⟩)), (xr HO_165001.out), (xr HO_165002.out), (xb BK158.out), (xb BK159.out), (xb BK160.out), (xb BK164.out), (xb BK170.out), (xs HB.out)⟩)
                 ·skip
                  rintro ⟨v172, v184⟩ w48 ⟨hS_, h0_, h1_, h2_, h3_, h4_, h5_, h6_, h7_, h8_, h9_, h10_⟩
                  have n0_ : Aside0 (Kd.R k31 31 w48 w.heap.size (fun k_ => nS k_ Ao39 x165000_1.length co39 ∧ k_ ≠ gb159 ∧ k_ ≠ gb170) v172 y171) := ⟨h0_⟩
                  have n1_ : Aside0 (Kd.R (Kd.int .i64) 3 w48 w.heap.size (fun k_ => nS k_ Ao40 x165001_1.length co40 ∧ nS k_ Ao41 x165002_1.length co41) v184 y183) := ⟨h1_⟩
                  have n2_ : Aside0 (Kd.R k31 31 w48 w.heap.size (fun k_ => nV k_ v172 ∧ k_ ≠ gb159 ∧ k_ ≠ gb170) (.slice Ao39 x165000_1.length co39) x165000_1) := ⟨h2_⟩
                  have n3_ : Aside0 (Kd.R (Kd.int .i64) 3 w48 w.heap.size (fun k_ => nV k_ v184 ∧ nS k_ Ao41 x165002_1.length co41) (.slice Ao40 x165001_1.length co40) x165001_1) := ⟨h3_⟩
                  have n4_ : Aside0 (Kd.R (Kd.int .i64) 3 w48 w.heap.size (fun k_ => nV k_ v184 ∧ nS k_ Ao40 x165001_1.length co40) (.slice Ao41 x165002_1.length co41) x165002_1) := ⟨h4_⟩
                  have n5_ : Aside0 (w48.heap[gb158]? = some (.cells #[.int .i64 a0_0, .int .i64 a0_1, .int .i64 a0_2, .int .i64 a0_3] 29 (0, 0))) := ⟨h5_⟩
                  have n6_ : Aside0 (w48.heap[gb159]? = some (.cells #[.int .i64 x160000_1, .bool x160001_1] 31 (0, 0))) := ⟨h6_⟩
                  have n7_ : Aside0 (w48.heap[gb160]? = some (.cells #[.slice none 0 0, .slice none 0 0, .slice none 0 0] 92 (0, 0))) := ⟨h7_⟩
                  have n8_ : Aside0 (w48.heap[gb164]? = some (.cells #[.slice Ao39 x165000_1.length co39, .slice Ao40 x165001_1.length co40, .slice Ao41 x165002_1.length co41] 92 (0, 0))) := ⟨h8_⟩
                  have n9_ : Aside0 (w48.heap[gb170]? = some (.cells #[.int .i64 t166, .bool t167] 31 (0, 0))) := ⟨h9_⟩
                  have n10_ : Aside0 (Below w.heap.size w w48) := ⟨h10_⟩
                  clear HO_165000
                  clear HO_165001
                  clear HO_165002
                  clear BK158
                  clear BK159
                  clear BK160
                  clear BK164
                  clear BK170
                  clear HB
                  clear h0_ h1_ h2_ h3_ h4_ h5_ h6_ h7_ h8_ h9_ h10_
                  have HO173 := n0_
                  have HO185 := n1_
                  have HO_165000 := n2_
                  have HO_165001 := n3_
                  have HO_165002 := n4_
                  have BK158 := n5_
                  have BK159 := n6_
                  have BK160 := n7_
                  have BK164 := n8_
                  have BK170 := n9_
                  have HB := n10_
                  clear n0_ n1_ n2_ n3_ n4_ n5_ n6_ n7_ n8_ n9_ n10_
                  have hHeld : w48.cell? ⟨gb164, 0, none⟩ = some (.slice Ao39 x165000_1.length co39) ∧ w48.cell? ⟨gb164, 1, none⟩ = some (.slice Ao40 x165001_1.length co40) ∧ w48.cell? ⟨gb164, 2, none⟩ = some (.slice Ao41 x165002_1.length co41) ∧ w48.cell? ⟨gb170, 0, none⟩ = some (.int .i64 t166) ∧ w48.cell? ⟨gb170, 1, none⟩ = some (.bool t167) := hS_
                  obtain ⟨Ao50, co50, eo50⟩ := Kd.R_slice HO173.out
                  (first | subst eo50 | (injection eo50 with f1_ f2_ f3_; have f4_ := f1_.symm; have f5_ := f3_.symm; clear f1_ f2_ f3_; subst f4_; subst f5_))
                  refine norm_ (a' := ?_) ?_ ?_
                  rotate_left
                  ·simp only [putAll, Act.put, List.setIfInBounds_toArray, List.set_cons_zero, List.set_cons_succ]
                   rfl
                  refine two_ (i := 4) (j := 8) (Ni := some 34) (Nj := some 38) #[true, true, true, true, true, true, true, true, false, false, true, true, true, true, false, false, false, false, false, false, false] #[true, true, true, true, false, true, true, true, true, false, true, true, true, true, false, false, false, false, false, false, false] rfl rfl rfl rfl (two_of HT_.out (by kernel_rfl)) (by decide) (by decide) (fun K hK => ?_) (fun K hK => ?_)
                  ·skip
                   refine Kd.R_append_rows_step k31 (w0 := w) w.heap.size (by rfl) (.tmp 31) (.tmp 33) 39 31 (.agg #[(.int .i64 0), (.bool false)]) 16 rfl Try.underlying39 info31 rfl (by decide) (by omega) (.slice Ao39 x165000_1.length co39) x165000_1 y171 _ _ _ (fun k_ => nS k_ Ao50 y171.length co50 ∧ k_ ≠ gb159 ∧ k_ ≠ gb170) (fun _ => False) rfl rfl ?aO ?aR (fun _ _ h => h) (fun _ h => h.elim) ?aF ?aB ?aS ?aL ?_
                   (case aR => exact xd ((Kd.R_reads' HO173.out).2.2))
                   (case aB => exact (xs HB.out))
                   (case aF => exact (fun k_ hk => ⟨Kd.fresh' (Kd.R_lt (xr HO173.out)) k_ hk, Kd.freshB (g := gb159) (o := .cells #[.int .i64 x160000_1, .bool x160001_1] 31 (0, 0)) (xb BK159.out) k_ hk, Kd.freshB (g := gb170) (o := .cells #[.int .i64 t166, .bool t167] 31 (0, 0)) (xb BK170.out) k_ hk⟩))
                   (case aO => exact (xr HO_165000.out))
                   (case aS => exact (below_size (xs HB.out)))
                   (case aL => have := LMc22.out; omega)
                   intro v175 w49 ho hb hg hat
                   rw [← Ny174.out] at ho
                   replace HO_165001 := Aside0.mk (Kd.R_over' (xr HO_165001.out) (Kd.R_typed (xr HO_165000.out)) (by decide) hg)
                   replace HO_165002 := Aside0.mk (Kd.R_over' (xr HO_165002.out) (Kd.R_typed (xr HO_165000.out)) (by decide) hg)
                   replace BK158 := Aside0.mk (blk_grown (g := gb158) (o := .cells #[.int .i64 a0_0, .int .i64 a0_1, .int .i64 a0_2, .int .i64 a0_3] 29 (0, 0)) (xb BK158.out) hg (Kd.R_ne HO_165000.out BK158.out (by decide)))
                   replace BK159 := Aside0.mk (blk_grown (g := gb159) (o := .cells #[.int .i64 x160000_1, .bool x160001_1] 31 (0, 0)) (xb BK159.out) hg (Kd.R_away HO_165000.out (fun _ hk => hk.2.1)))
                   replace BK160 := Aside0.mk (blk_grown (g := gb160) (o := .cells #[.slice none 0 0, .slice none 0 0, .slice none 0 0] 92 (0, 0)) (xb BK160.out) hg (Kd.R_ne HO_165000.out BK160.out (by decide)))
                   replace BK164 := Aside0.mk (blk_grown (g := gb164) (o := .cells #[.slice Ao39 x165000_1.length co39, .slice Ao40 x165001_1.length co40, .slice Ao41 x165002_1.length co41] 92 (0, 0)) (xb BK164.out) hg (Kd.R_ne HO_165000.out BK164.out (by decide)))
                   replace BK170 := Aside0.mk (blk_grown (g := gb170) (o := .cells #[.int .i64 t166, .bool t167] 31 (0, 0)) (xb BK170.out) hg (Kd.R_away HO_165000.out (fun _ hk => hk.2.2)))
                   replace HO173 := Aside0.mk (Kd.R_after (ok := (fun k_ => k_ ≠ gb159 ∧ k_ ≠ gb170)) (xm HO173 (fun _ hk => ⟨⟨hk.2.1, hk.2.2⟩, hk.1⟩)) hg hat)
                   replace HO185 := Aside0.mk (Kd.R_over' (xr HO185.out) (Kd.R_typed (xr HO_165000.out)) (by decide) hg)
                   replace HB := Aside0.mk (hb)
                   have HO176 := Aside0.mk (ho)
                   clear HO_165000
                   clear ho hb hg hat
                   refine hK.out _ _ ⟨(blk_cell BK164.out 0).trans rfl, (blk_cell BK164.out 1).trans rfl, (blk_cell BK164.out 2).trans rfl, (blk_cell BK170.out 0).trans rfl, (blk_cell BK170.out 1).trans rfl⟩ (fun hHeld => ?_)
                   clear hK K
                   refine norm_ (a' := ?_) ?_ ?_
                   rotate_left
                   ·show Act.put _ (some 34) _ = _
                    simp only [Act.put, List.setIfInBounds_toArray, List.set_cons_zero, List.set_cons_succ, i64_w, i32_w]
                    rfl
                   refine pure_ (i := 15) (N := some 45) (v := ?_) (a' := ?_) #[true, true, true, true, true, true, true, true, false, false, true, true, true, true, false, true, false, false, false, false, false] rfl rfl (any_of HT_.out (by kernel_rfl)) (fun _ _ _ h => h) (Or.inl ⟨by rfl, ?_⟩) ?_ ?_
                   rotate_left
                   ·intro w'
                    go_simp
                    with_reducible rfl
                   rotate_left
                   ·simp only [Act.put, List.setIfInBounds_toArray, List.set_cons_zero, List.set_cons_succ, i64_w, i32_w]
                    rfl
                   exact norm_ (by first | (simp only [putAll, Act.put, List.setIfInBounds_toArray, List.set_cons_zero, List.set_cons_succ]; done) | (simp only [putAll, Act.put, List.setIfInBounds_toArray, List.set_cons_zero, List.set_cons_succ]; rfl)) (hJ3_4_13 (.slice Ao50 y171.length co50, v175, v184) _ ⟨hHeld, (xm HO173 (fun _ hk => ⟨hk.2, ⟨hk.1.1, hk.1.2⟩⟩)), (xr HO176.out), (xr HO185.out), (xr HO_165001.out), (xr HO_165002.out), (xb BK158.out), (xb BK159.out), (xb BK160.out), (xb BK164.out), (xb BK170.out), (xs HB.out)⟩)
                  ·skip
                   refine Kd.R_lit_step (Kd.int .i64) _ 3 ?hg (N := 38) ?hd (xs := ([t168] : List Int)) (inner := [.int .i64 t168]) (ok := fun _ => True) (okp := fun _ => True) ?hr ?hp (fun _ hk => hk) trivial (Below.refl _ _) (Nat.le_refl _) (by simp) ?_; (case hd => rfl); (case hg => rfl); (case hr => first | (go_simp; done) | (go_simp; rfl)); (case hp => exact (Reps.one (show Kd.M (Kd.int .i64) _ _ _ t168 [.int .i64 t168] from rfl) (Reps.none _ _)))
                   intro v178 w49 ho50 hb hg_ hnew_
                   clear hg_ hnew_
                   (first | rw [← Ny177.out] at ho50 | (simp only [Int.reduceToNat] at ho50; rw [← Ny177.out] at ho50))
                   replace HO_165000 := xq HO_165000 hb
                   replace HO173 := xq HO173 hb
                   have HO179 := Aside0.mk (Kd.R_lower (Kd.R_new' (Kd.R_new' (Kd.R_new' ho50 (Kd.R_lt (xr HO_165001.out))) (Kd.R_lt (xr HO_165002.out))) (Kd.R_lt (xr HO185.out))) (below_size (xs HB.out)))
                   replace HO_165001 := Aside0.mk (Kd.R_elder' (xr HO_165001.out) (Kd.R_base ho50) hb)
                   replace HO_165002 := Aside0.mk (Kd.R_elder' (xr HO_165002.out) (Kd.R_base ho50) hb)
                   replace HO185 := Aside0.mk (Kd.R_elder' (xr HO185.out) (Kd.R_base ho50) hb)
                   replace BK158 := xk BK158 hb
                   replace BK159 := xk BK159 hb
                   replace BK160 := xk BK160 hb
                   replace BK164 := xk BK164 hb
                   replace BK170 := xk BK170 hb
                   replace HB := xp HB hb
                   clear hb ho50
                   refine hK.out _ _ ⟨(blk_cell BK164.out 0).trans rfl, (blk_cell BK164.out 1).trans rfl, (blk_cell BK164.out 2).trans rfl, (blk_cell BK170.out 0).trans rfl, (blk_cell BK170.out 1).trans rfl⟩ (fun hHeld => ?_)
                   clear hK K
                   refine norm_ (a' := ?_) ?_ ?_
                   rotate_left
                   ·show Act.put _ (some 38) _ = _
                    simp only [Act.put, List.setIfInBounds_toArray, List.set_cons_zero, List.set_cons_succ, i64_w, i32_w]
                    rfl
                   exact norm_ (by first | (simp only [putAll, Act.put, List.setIfInBounds_toArray, List.set_cons_zero, List.set_cons_succ]; done) | (simp only [putAll, Act.put, List.setIfInBounds_toArray, List.set_cons_zero, List.set_cons_succ]; rfl)) (hJ3_8_13 (.slice Ao50 y171.length co50, v178, v184) _ ⟨hHeld, (xr HO173.out), (xm HO179 (fun _ hk => ⟨hk.2, ⟨hk.1.1.2, hk.1.2⟩⟩)), (xm HO185 (fun _ hk => ⟨hk.2, ⟨hk.1.1, hk.1.2⟩⟩)), (xr HO_165000.out), (xm HO_165001 (fun _ hk => ⟨hk.2, ⟨hk.1.1, hk.1.2⟩⟩)), (xm HO_165002 (fun _ hk => ⟨hk.2, ⟨hk.1.1, hk.1.2⟩⟩)), (xb BK158.out), (xb BK159.out), (xb BK160.out), (xb BK164.out), (xb BK170.out), (xs HB.out)⟩)
                ·skip
                 rintro ⟨v172, v178⟩ w48 ⟨hS_, h0_, h1_, h2_, h3_, h4_, h5_, h6_, h7_, h8_, h9_, h10_⟩
                 have n0_ : Aside0 (Kd.R k31 31 w48 w.heap.size (fun k_ => nS k_ Ao39 x165000_1.length co39 ∧ k_ ≠ gb159 ∧ k_ ≠ gb170) v172 y171) := ⟨h0_⟩
                 have n1_ : Aside0 (Kd.R (Kd.int .i64) 3 w48 w.heap.size (fun k_ => nS k_ Ao40 x165001_1.length co40 ∧ nS k_ Ao41 x165002_1.length co41) v178 y177) := ⟨h1_⟩
                 have n2_ : Aside0 (Kd.R k31 31 w48 w.heap.size (fun k_ => nV k_ v172 ∧ k_ ≠ gb159 ∧ k_ ≠ gb170) (.slice Ao39 x165000_1.length co39) x165000_1) := ⟨h2_⟩
                 have n3_ : Aside0 (Kd.R (Kd.int .i64) 3 w48 w.heap.size (fun k_ => nV k_ v178 ∧ nS k_ Ao41 x165002_1.length co41) (.slice Ao40 x165001_1.length co40) x165001_1) := ⟨h3_⟩
                 have n4_ : Aside0 (Kd.R (Kd.int .i64) 3 w48 w.heap.size (fun k_ => nV k_ v178 ∧ nS k_ Ao40 x165001_1.length co40) (.slice Ao41 x165002_1.length co41) x165002_1) := ⟨h4_⟩
                 have n5_ : Aside0 (w48.heap[gb158]? = some (.cells #[.int .i64 a0_0, .int .i64 a0_1, .int .i64 a0_2, .int .i64 a0_3] 29 (0, 0))) := ⟨h5_⟩
                 have n6_ : Aside0 (w48.heap[gb159]? = some (.cells #[.int .i64 x160000_1, .bool x160001_1] 31 (0, 0))) := ⟨h6_⟩
                 have n7_ : Aside0 (w48.heap[gb160]? = some (.cells #[.slice none 0 0, .slice none 0 0, .slice none 0 0] 92 (0, 0))) := ⟨h7_⟩
                 have n8_ : Aside0 (w48.heap[gb164]? = some (.cells #[.slice Ao39 x165000_1.length co39, .slice Ao40 x165001_1.length co40, .slice Ao41 x165002_1.length co41] 92 (0, 0))) := ⟨h8_⟩
                 have n9_ : Aside0 (w48.heap[gb170]? = some (.cells #[.int .i64 t166, .bool t167] 31 (0, 0))) := ⟨h9_⟩
                 have n10_ : Aside0 (Below w.heap.size w w48) := ⟨h10_⟩
                 clear HO_165000
                 clear HO_165001
                 clear HO_165002
                 clear BK158
                 clear BK159
                 clear BK160
                 clear BK164
                 clear BK170
                 clear HB
                 clear h0_ h1_ h2_ h3_ h4_ h5_ h6_ h7_ h8_ h9_ h10_
                 have HO173 := n0_
                 have HO179 := n1_
                 have HO_165000 := n2_
                 have HO_165001 := n3_
                 have HO_165002 := n4_
                 have BK158 := n5_
                 have BK159 := n6_
                 have BK160 := n7_
                 have BK164 := n8_
                 have BK170 := n9_
                 have HB := n10_
                 clear n0_ n1_ n2_ n3_ n4_ n5_ n6_ n7_ n8_ n9_ n10_
                 have hHeld : w48.cell? ⟨gb164, 0, none⟩ = some (.slice Ao39 x165000_1.length co39) ∧ w48.cell? ⟨gb164, 1, none⟩ = some (.slice Ao40 x165001_1.length co40) ∧ w48.cell? ⟨gb164, 2, none⟩ = some (.slice Ao41 x165002_1.length co41) ∧ w48.cell? ⟨gb170, 0, none⟩ = some (.int .i64 t166) ∧ w48.cell? ⟨gb170, 1, none⟩ = some (.bool t167) := hS_
                 obtain ⟨Ao50, co50, eo50⟩ := Kd.R_slice HO173.out
                 (first | subst eo50 | (injection eo50 with f1_ f2_ f3_; have f4_ := f1_.symm; have f5_ := f3_.symm; clear f1_ f2_ f3_; subst f4_; subst f5_))
                 refine norm_ (a' := ?_) ?_ ?_
                 rotate_left
                 ·simp only [putAll, Act.put, List.setIfInBounds_toArray, List.set_cons_zero, List.set_cons_succ]
                  rfl
                 refine two_ (i := 4) (j := 13) (Ni := some 34) (Nj := some 43) #[true, true, true, true, true, true, true, true, true, false, true, true, true, false, false, false, false, false, false, false, false] #[true, true, true, true, false, true, true, true, true, false, true, true, true, true, false, false, false, false, false, false, false] rfl rfl rfl rfl (two_of HT_.out (by kernel_rfl)) (by decide) (by decide) (fun K hK => ?_) (fun K hK => ?_)
                 ·skip
                  refine Kd.R_append_rows_step k31 (w0 := w) w.heap.size (by rfl) (.tmp 31) (.tmp 33) 39 31 (.agg #[(.int .i64 0), (.bool false)]) 16 rfl Try.underlying39 info31 rfl (by decide) (by omega) (.slice Ao39 x165000_1.length co39) x165000_1 y171 _ _ _ (fun k_ => nS k_ Ao50 y171.length co50 ∧ k_ ≠ gb159 ∧ k_ ≠ gb170) (fun _ => False) rfl rfl ?aO ?aR (fun _ _ h => h) (fun _ h => h.elim) ?aF ?aB ?aS ?aL ?_
                  (case aR => exact xd ((Kd.R_reads' HO173.out).2.2))
                  (case aB => exact (xs HB.out))
                  (case aF => exact (fun k_ hk => ⟨Kd.fresh' (Kd.R_lt (xr HO173.out)) k_ hk, Kd.freshB (g := gb159) (o := .cells #[.int .i64 x160000_1, .bool x160001_1] 31 (0, 0)) (xb BK159.out) k_ hk, Kd.freshB (g := gb170) (o := .cells #[.int .i64 t166, .bool t167] 31 (0, 0)) (xb BK170.out) k_ hk⟩))
                  (case aO => exact (xr HO_165000.out))
                  (case aS => exact (below_size (xs HB.out)))
                  (case aL => have := LMc22.out; omega)
                  intro v175 w49 ho hb hg hat
                  rw [← Ny174.out] at ho
                  replace HO_165001 := Aside0.mk (Kd.R_over' (xr HO_165001.out) (Kd.R_typed (xr HO_165000.out)) (by decide) hg)
                  replace HO_165002 := Aside0.mk (Kd.R_over' (xr HO_165002.out) (Kd.R_typed (xr HO_165000.out)) (by decide) hg)
                  replace BK158 := Aside0.mk (blk_grown (g := gb158) (o := .cells #[.int .i64 a0_0, .int .i64 a0_1, .int .i64 a0_2, .int .i64 a0_3] 29 (0, 0)) (xb BK158.out) hg (Kd.R_ne HO_165000.out BK158.out (by decide)))
                  replace BK159 := Aside0.mk (blk_grown (g := gb159) (o := .cells #[.int .i64 x160000_1, .bool x160001_1] 31 (0, 0)) (xb BK159.out) hg (Kd.R_away HO_165000.out (fun _ hk => hk.2.1)))
                  replace BK160 := Aside0.mk (blk_grown (g := gb160) (o := .cells #[.slice none 0 0, .slice none 0 0, .slice none 0 0] 92 (0, 0)) (xb BK160.out) hg (Kd.R_ne HO_165000.out BK160.out (by decide)))
                  replace BK164 := Aside0.mk (blk_grown (g := gb164) (o := .cells #[.slice Ao39 x165000_1.length co39, .slice Ao40 x165001_1.length co40, .slice Ao41 x165002_1.length co41] 92 (0, 0)) (xb BK164.out) hg (Kd.R_ne HO_165000.out BK164.out (by decide)))
                  replace BK170 := Aside0.mk (blk_grown (g := gb170) (o := .cells #[.int .i64 t166, .bool t167] 31 (0, 0)) (xb BK170.out) hg (Kd.R_away HO_165000.out (fun _ hk => hk.2.2)))
                  replace HO173 := Aside0.mk (Kd.R_after (ok := (fun k_ => k_ ≠ gb159 ∧ k_ ≠ gb170)) (xm HO173 (fun _ hk => ⟨⟨hk.2.1, hk.2.2⟩, hk.1⟩)) hg hat)
                  replace HO179 := Aside0.mk (Kd.R_over' (xr HO179.out) (Kd.R_typed (xr HO_165000.out)) (by decide) hg)
                  replace HB := Aside0.mk (hb)
                  have HO176 := Aside0.mk (ho)
                  clear HO_165000
                  clear ho hb hg hat
                  refine hK.out _ _ ⟨(blk_cell BK164.out 0).trans rfl, (blk_cell BK164.out 1).trans rfl, (blk_cell BK164.out 2).trans rfl, (blk_cell BK170.out 0).trans rfl, (blk_cell BK170.out 1).trans rfl⟩ (fun hHeld => ?_)
                  clear hK K
                  refine norm_ (a' := ?_) ?_ ?_
                  rotate_left
                  ·show Act.put _ (some 34) _ = _
                   simp only [Act.put, List.setIfInBounds_toArray, List.set_cons_zero, List.set_cons_succ, i64_w, i32_w]
                   rfl
                  refine pure_ (i := 15) (N := some 45) (v := ?_) (a' := ?_) #[true, true, true, true, true, true, true, true, true, false, true, true, true, false, false, true, false, false, false, false, false] rfl rfl (any_of HT_.out (by kernel_rfl)) (fun _ _ _ h => h) (Or.inl ⟨by rfl, ?_⟩) ?_ ?_
                  rotate_left
                  ·intro w'
                   go_simp
                   with_reducible rfl
                  rotate_left
                  ·simp only [Act.put, List.setIfInBounds_toArray, List.set_cons_zero, List.set_cons_succ, i64_w, i32_w]
                   rfl
                  exact norm_ (by first | (simp only [putAll, Act.put, List.setIfInBounds_toArray, List.set_cons_zero, List.set_cons_succ]; done) | (simp only [putAll, Act.put, List.setIfInBounds_toArray, List.set_cons_zero, List.set_cons_succ]; rfl)) (hJ3_4_8 (.slice Ao50 y171.length co50, v175, v178) _ ⟨hHeld, (xm HO173 (fun _ hk => ⟨hk.2, ⟨hk.1.1, hk.1.2⟩⟩)), (xr HO176.out), (xr HO179.out), (xr HO_165001.out), (xr HO_165002.out), (xb BK158.out), (xb BK159.out), (xb BK160.out), (xb BK164.out), (xb BK170.out), (xs HB.out)⟩)
                 ·skip
                  refine Kd.R_lit_step (Kd.int .i64) _ 3 ?hg (N := 43) ?hd (xs := ([t169] : List Int)) (inner := [.int .i64 t169]) (ok := fun _ => True) (okp := fun _ => True) ?hr ?hp (fun _ hk => hk) trivial (Below.refl _ _) (Nat.le_refl _) (by simp) ?_; (case hd => rfl); (case hg => rfl); (case hr => first | (go_simp; done) | (go_simp; rfl)); (case hp => exact (Reps.one (show Kd.M (Kd.int .i64) _ _ _ t169 [.int .i64 t169] from rfl) (Reps.none _ _)))
                  intro v184 w49 ho50 hb hg_ hnew_
                  clear hg_ hnew_
                  (first | rw [← Ny183.out] at ho50 | (simp only [Int.reduceToNat] at ho50; rw [← Ny183.out] at ho50))
                  replace HO_165000 := xq HO_165000 hb
                  replace HO173 := xq HO173 hb
                  have HO185 := Aside0.mk (Kd.R_lower (Kd.R_new' (Kd.R_new' (Kd.R_new' ho50 (Kd.R_lt (xr HO_165001.out))) (Kd.R_lt (xr HO_165002.out))) (Kd.R_lt (xr HO179.out))) (below_size (xs HB.out)))
                  replace HO_165001 := Aside0.mk (Kd.R_elder' (xr HO_165001.out) (Kd.R_base ho50) hb)
                  replace HO_165002 := Aside0.mk (Kd.R_elder' (xr HO_165002.out) (Kd.R_base ho50) hb)
                  replace HO179 := Aside0.mk (Kd.R_elder' (xr HO179.out) (Kd.R_base ho50) hb)
                  replace BK158 := xk BK158 hb
                  replace BK159 := xk BK159 hb
                  replace BK160 := xk BK160 hb
                  replace BK164 := xk BK164 hb
                  replace BK170 := xk BK170 hb
                  replace HB := xp HB hb
                  clear hb ho50
                  refine hK.out _ _ ⟨(blk_cell BK164.out 0).trans rfl, (blk_cell BK164.out 1).trans rfl, (blk_cell BK164.out 2).trans rfl, (blk_cell BK170.out 0).trans rfl, (blk_cell BK170.out 1).trans rfl⟩ (fun hHeld => ?_)
                  clear hK K
                  refine norm_ (a' := ?_) ?_ ?_
                  rotate_left
                  ·show Act.put _ (some 43) _ = _
                   simp only [Act.put, List.setIfInBounds_toArray, List.set_cons_zero, List.set_cons_succ, i64_w, i32_w]
                   rfl
                  exact norm_ (by first | (simp only [putAll, Act.put, List.setIfInBounds_toArray, List.set_cons_zero, List.set_cons_succ]; done) | (simp only [putAll, Act.put, List.setIfInBounds_toArray, List.set_cons_zero, List.set_cons_succ]; rfl)) (hJ3_8_13 (.slice Ao50 y171.length co50, v178, v184) _ ⟨hHeld, (xr HO173.out), (xm HO179 (fun _ hk => ⟨hk.2, ⟨hk.1.1, hk.1.2⟩⟩)), (xm HO185 (fun _ hk => ⟨hk.2, ⟨hk.1.1.2, hk.1.2⟩⟩)), (xr HO_165000.out), (xm HO_165001 (fun _ hk => ⟨hk.1.1, ⟨hk.2, hk.1.2⟩⟩)), (xm HO_165002 (fun _ hk => ⟨hk.1.1, ⟨hk.2, hk.1.2⟩⟩)), (xb BK158.out), (xb BK159.out), (xb BK160.out), (xb BK164.out), (xb BK170.out), (xs HB.out)⟩)
               ·skip
                rintro ⟨v172, v175⟩ w48 ⟨hS_, h0_, h1_, h2_, h3_, h4_, h5_, h6_, h7_, h8_, h9_⟩
                have n0_ : Aside0 (Kd.R k31 31 w48 w.heap.size (fun k_ => nV k_ v175 ∧ k_ ≠ gb159 ∧ k_ ≠ gb170) v172 y171) := ⟨h0_⟩
                have n1_ : Aside0 (Kd.R k31 31 w48 w.heap.size (fun k_ => nV k_ v172 ∧ k_ ≠ gb159 ∧ k_ ≠ gb170) v175 y174) := ⟨h1_⟩
                have n2_ : Aside0 (Kd.R (Kd.int .i64) 3 w48 w.heap.size (fun k_ => nS k_ Ao41 x165002_1.length co41) (.slice Ao40 x165001_1.length co40) x165001_1) := ⟨h2_⟩
                have n3_ : Aside0 (Kd.R (Kd.int .i64) 3 w48 w.heap.size (fun k_ => nS k_ Ao40 x165001_1.length co40) (.slice Ao41 x165002_1.length co41) x165002_1) := ⟨h3_⟩
                have n4_ : Aside0 (w48.heap[gb158]? = some (.cells #[.int .i64 a0_0, .int .i64 a0_1, .int .i64 a0_2, .int .i64 a0_3] 29 (0, 0))) := ⟨h4_⟩
                have n5_ : Aside0 (w48.heap[gb159]? = some (.cells #[.int .i64 x160000_1, .bool x160001_1] 31 (0, 0))) := ⟨h5_⟩
                have n6_ : Aside0 (w48.heap[gb160]? = some (.cells #[.slice none 0 0, .slice none 0 0, .slice none 0 0] 92 (0, 0))) := ⟨h6_⟩
                have n7_ : Aside0 (w48.heap[gb164]? = some (.cells #[.slice Ao39 x165000_1.length co39, .slice Ao40 x165001_1.length co40, .slice Ao41 x165002_1.length co41] 92 (0, 0))) := ⟨h7_⟩
                have n8_ : Aside0 (w48.heap[gb170]? = some (.cells #[.int .i64 t166, .bool t167] 31 (0, 0))) := ⟨h8_⟩
                have n9_ : Aside0 (Below w.heap.size w w48) := ⟨h9_⟩
                clear HO_165000
                clear HO_165001
                clear HO_165002
                clear BK158
                clear BK159
                clear BK160
                clear BK164
                clear BK170
                clear HB
                clear h0_ h1_ h2_ h3_ h4_ h5_ h6_ h7_ h8_ h9_
                have HO173 := n0_
                have HO176 := n1_
                have HO_165001 := n2_
                have HO_165002 := n3_
                have BK158 := n4_
                have BK159 := n5_
                have BK160 := n6_
                have BK164 := n7_
                have BK170 := n8_
                have HB := n9_
                clear n0_ n1_ n2_ n3_ n4_ n5_ n6_ n7_ n8_ n9_
                have hHeld : w48.cell? ⟨gb164, 0, none⟩ = some (.slice Ao39 x165000_1.length co39) ∧ w48.cell? ⟨gb164, 1, none⟩ = some (.slice Ao40 x165001_1.length co40) ∧ w48.cell? ⟨gb164, 2, none⟩ = some (.slice Ao41 x165002_1.length co41) ∧ w48.cell? ⟨gb170, 0, none⟩ = some (.int .i64 t166) ∧ w48.cell? ⟨gb170, 1, none⟩ = some (.bool t167) := hS_
                refine norm_ (a' := ?_) ?_ ?_
                rotate_left
                ·simp only [putAll, Act.put, List.setIfInBounds_toArray, List.set_cons_zero, List.set_cons_succ]
                 rfl
                refine two_ (i := 8) (j := 13) (Ni := some 38) (Nj := some 43) #[true, true, true, true, true, true, true, true, true, false, true, true, true, false, false, true, false, false, false, false, false] #[true, true, true, true, true, true, true, true, false, false, true, true, true, true, false, true, false, false, false, false, false] rfl rfl rfl rfl (two_of HT_.out (by kernel_rfl)) (by decide) (by decide) (fun K hK => ?_) (fun K hK => ?_)
                ·skip
                 refine Kd.R_lit_step (Kd.int .i64) _ 3 ?hg (N := 38) ?hd (xs := ([t168] : List Int)) (inner := [.int .i64 t168]) (ok := fun _ => True) (okp := fun _ => True) ?hr ?hp (fun _ hk => hk) trivial (Below.refl _ _) (Nat.le_refl _) (by simp) ?_; (case hd => rfl); (case hg => rfl); (case hr => first | (go_simp; done) | (go_simp; rfl)); (case hp => exact (Reps.one (show Kd.M (Kd.int .i64) _ _ _ t168 [.int .i64 t168] from rfl) (Reps.none _ _)))
                 intro v178 w49 ho50 hb hg_ hnew_
                 clear hg_ hnew_
                 (first | rw [← Ny177.out] at ho50 | (simp only [Int.reduceToNat] at ho50; rw [← Ny177.out] at ho50))
                 replace HO173 := xq HO173 hb
                 replace HO176 := xq HO176 hb
                 have HO179 := Aside0.mk (Kd.R_lower (Kd.R_new' (Kd.R_new' ho50 (Kd.R_lt (xr HO_165001.out))) (Kd.R_lt (xr HO_165002.out))) (below_size (xs HB.out)))
                 replace HO_165001 := Aside0.mk (Kd.R_elder' (xr HO_165001.out) (Kd.R_base ho50) hb)
                 replace HO_165002 := Aside0.mk (Kd.R_elder' (xr HO_165002.out) (Kd.R_base ho50) hb)
                 replace BK158 := xk BK158 hb
                 replace BK159 := xk BK159 hb
                 replace BK160 := xk BK160 hb
                 replace BK164 := xk BK164 hb
                 replace BK170 := xk BK170 hb
                 replace HB := xp HB hb
                 clear hb ho50
                 refine hK.out _ _ ⟨(blk_cell BK164.out 0).trans rfl, (blk_cell BK164.out 1).trans rfl, (blk_cell BK164.out 2).trans rfl, (blk_cell BK170.out 0).trans rfl, (blk_cell BK170.out 1).trans rfl⟩ (fun hHeld => ?_)
                 clear hK K
                 refine norm_ (a' := ?_) ?_ ?_
                 rotate_left
                 ·show Act.put _ (some 38) _ = _
                  simp only [Act.put, List.setIfInBounds_toArray, List.set_cons_zero, List.set_cons_succ, i64_w, i32_w]
                  rfl
                 exact norm_ (by first | (simp only [putAll, Act.put, List.setIfInBounds_toArray, List.set_cons_zero, List.set_cons_succ]; done) | (simp only [putAll, Act.put, List.setIfInBounds_toArray, List.set_cons_zero, List.set_cons_succ]; rfl)) (hJ3_4_8 (v172, v175, v178) _ ⟨hHeld, (xr HO173.out), (xr HO176.out), (xm HO179 (fun _ hk => ⟨hk.1.2, hk.2⟩)), (xm HO_165001 (fun _ hk => ⟨hk.2, hk.1⟩)), (xm HO_165002 (fun _ hk => ⟨hk.2, hk.1⟩)), (xb BK158.out), (xb BK159.out), (xb BK160.out), (xb BK164.out), (xb BK170.out), (xs HB.out)⟩)
                ·skip
                 refine Kd.R_lit_step (Kd.int .i64) _ 3 ?hg (N := 43) ?hd (xs := ([t169] : List Int)) (inner := [.int .i64 t169]) (ok := fun _ => True) (okp := fun _ => True) ?hr ?hp (fun _ hk => hk) trivial (Below.refl _ _) (Nat.le_refl _) (by simp) ?_; (case hd => rfl); (case hg => rfl); (case hr => first | (go_simp; done) | (go_simp; rfl)); (case hp => exact (Reps.one (show Kd.M (Kd.int .i64) _ _ _ t169 [.int .i64 t169] from rfl) (Reps.none _ _)))
                 intro v184 w49 ho50 hb hg_ hnew_
                 clear hg_ hnew_
                 (first | rw [← Ny183.out] at ho50 | (simp only [Int.reduceToNat] at ho50; rw [← Ny183.out] at ho50))
                 replace HO173 := xq HO173 hb
                 replace HO176 := xq HO176 hb
                 have HO185 := Aside0.mk (Kd.R_lower (Kd.R_new' (Kd.R_new' ho50 (Kd.R_lt (xr HO_165001.out))) (Kd.R_lt (xr HO_165002.out))) (below_size (xs HB.out)))
                 replace HO_165001 := Aside0.mk (Kd.R_elder' (xr HO_165001.out) (Kd.R_base ho50) hb)
                 replace HO_165002 := Aside0.mk (Kd.R_elder' (xr HO_165002.out) (Kd.R_base ho50) hb)
                 replace BK158 := xk BK158 hb
                 replace BK159 := xk BK159 hb
                 replace BK160 := xk BK160 hb
                 replace BK164 := xk BK164 hb
                 replace BK170 := xk BK170 hb
                 replace HB := xp HB hb
                 clear hb ho50
                 refine hK.out _ _ ⟨(blk_cell BK164.out 0).trans rfl, (blk_cell BK164.out 1).trans rfl, (blk_cell BK164.out 2).trans rfl, (blk_cell BK170.out 0).trans rfl, (blk_cell BK170.out 1).trans rfl⟩ (fun hHeld => ?_)
                 clear hK K
                 refine norm_ (a' := ?_) ?_ ?_
                 rotate_left
                 ·show Act.put _ (some 43) _ = _
                  simp only [Act.put, List.setIfInBounds_toArray, List.set_cons_zero, List.set_cons_succ, i64_w, i32_w]
                  rfl
                 exact norm_ (by first | (simp only [putAll, Act.put, List.setIfInBounds_toArray, List.set_cons_zero, List.set_cons_succ]; done) | (simp only [putAll, Act.put, List.setIfInBounds_toArray, List.set_cons_zero, List.set_cons_succ]; rfl)) (hJ3_4_13 (v172, v175, v184) _ ⟨hHeld, (xr HO173.out), (xr HO176.out), (xm HO185 (fun _ hk => ⟨hk.1.2, hk.2⟩)), (xm HO_165001 (fun _ hk => ⟨hk.2, hk.1⟩)), (xm HO_165002 (fun _ hk => ⟨hk.2, hk.1⟩)), (xb BK158.out), (xb BK159.out), (xb BK160.out), (xb BK164.out), (xb BK170.out), (xs HB.out)⟩)
              ·skip
               rintro ⟨v172, v178, v184⟩ w50 ⟨hS_, h0_, h1_, h2_, h3_, h4_, h5_, h6_, h7_, h8_, h9_, h10_, h11_⟩
               have n0_ : Aside0 (Kd.R k31 31 w50 w.heap.size (fun k_ => nS k_ Ao39 x165000_1.length co39 ∧ k_ ≠ gb159 ∧ k_ ≠ gb170) v172 y171) := ⟨h0_⟩
               have n1_ : Aside0 (Kd.R (Kd.int .i64) 3 w50 w.heap.size (fun k_ => nV k_ v184 ∧ nS k_ Ao40 x165001_1.length co40 ∧ nS k_ Ao41 x165002_1.length co41) v178 y177) := ⟨h1_⟩
               have n2_ : Aside0 (Kd.R (Kd.int .i64) 3 w50 w.heap.size (fun k_ => nV k_ v178 ∧ nS k_ Ao40 x165001_1.length co40 ∧ nS k_ Ao41 x165002_1.length co41) v184 y183) := ⟨h2_⟩
               have n3_ : Aside0 (Kd.R k31 31 w50 w.heap.size (fun k_ => nV k_ v172 ∧ k_ ≠ gb159 ∧ k_ ≠ gb170) (.slice Ao39 x165000_1.length co39) x165000_1) := ⟨h3_⟩
               have n4_ : Aside0 (Kd.R (Kd.int .i64) 3 w50 w.heap.size (fun k_ => nV k_ v178 ∧ nV k_ v184 ∧ nS k_ Ao41 x165002_1.length co41) (.slice Ao40 x165001_1.length co40) x165001_1) := ⟨h4_⟩
               have n5_ : Aside0 (Kd.R (Kd.int .i64) 3 w50 w.heap.size (fun k_ => nV k_ v178 ∧ nV k_ v184 ∧ nS k_ Ao40 x165001_1.length co40) (.slice Ao41 x165002_1.length co41) x165002_1) := ⟨h5_⟩
               have n6_ : Aside0 (w50.heap[gb158]? = some (.cells #[.int .i64 a0_0, .int .i64 a0_1, .int .i64 a0_2, .int .i64 a0_3] 29 (0, 0))) := ⟨h6_⟩
               have n7_ : Aside0 (w50.heap[gb159]? = some (.cells #[.int .i64 x160000_1, .bool x160001_1] 31 (0, 0))) := ⟨h7_⟩
               have n8_ : Aside0 (w50.heap[gb160]? = some (.cells #[.slice none 0 0, .slice none 0 0, .slice none 0 0] 92 (0, 0))) := ⟨h8_⟩
               have n9_ : Aside0 (w50.heap[gb164]? = some (.cells #[.slice Ao39 x165000_1.length co39, .slice Ao40 x165001_1.length co40, .slice Ao41 x165002_1.length co41] 92 (0, 0))) := ⟨h9_⟩
               have n10_ : Aside0 (w50.heap[gb170]? = some (.cells #[.int .i64 t166, .bool t167] 31 (0, 0))) := ⟨h10_⟩
               have n11_ : Aside0 (Below w.heap.size w w50) := ⟨h11_⟩
               clear HO_165000
               clear HO_165001
               clear HO_165002
               clear BK158
               clear BK159
               clear BK160
               clear BK164
               clear BK170
               clear HB
               clear h0_ h1_ h2_ h3_ h4_ h5_ h6_ h7_ h8_ h9_ h10_ h11_
               have HO173 := n0_
               have HO179 := n1_
               have HO185 := n2_
               have HO_165000 := n3_
               have HO_165001 := n4_
               have HO_165002 := n5_
               have BK158 := n6_
               have BK159 := n7_
               have BK160 := n8_
               have BK164 := n9_
               have BK170 := n10_
               have HB := n11_
               clear n0_ n1_ n2_ n3_ n4_ n5_ n6_ n7_ n8_ n9_ n10_ n11_
               have hHeld : w50.cell? ⟨gb164, 0, none⟩ = some (.slice Ao39 x165000_1.length co39) ∧ w50.cell? ⟨gb164, 1, none⟩ = some (.slice Ao40 x165001_1.length co40) ∧ w50.cell? ⟨gb164, 2, none⟩ = some (.slice Ao41 x165002_1.length co41) ∧ w50.cell? ⟨gb170, 0, none⟩ = some (.int .i64 t166) ∧ w50.cell? ⟨gb170, 1, none⟩ = some (.bool t167) := hS_
               obtain ⟨Ao52, co52, eo52⟩ := Kd.R_slice HO173.out
               (first | subst eo52 | (injection eo52 with f1_ f2_ f3_; have f4_ := f1_.symm; have f5_ := f3_.symm; clear f1_ f2_ f3_; subst f4_; subst f5_))
               refine norm_ (a' := ?_) ?_ ?_
               rotate_left
               ·simp only [putAll, Act.put, List.setIfInBounds_toArray, List.set_cons_zero, List.set_cons_succ]
                rfl
               refine one_ (i := 4) (N := some 34) #[true, true, true, true, true, true, true, true, true, false, true, true, true, true, false, false, false, false, false, false, false] rfl rfl (one_of HT_.out (by kernel_rfl)) (by decide) (fun K hK => ?_)
               refine Kd.R_append_rows_step k31 (w0 := w) w.heap.size (by rfl) (.tmp 31) (.tmp 33) 39 31 (.agg #[(.int .i64 0), (.bool false)]) 16 rfl Try.underlying39 info31 rfl (by decide) (by omega) (.slice Ao39 x165000_1.length co39) x165000_1 y171 _ _ _ (fun k_ => nS k_ Ao52 y171.length co52 ∧ k_ ≠ gb159 ∧ k_ ≠ gb170) (fun _ => False) rfl rfl ?aO ?aR (fun _ _ h => h) (fun _ h => h.elim) ?aF ?aB ?aS ?aL ?_
               (case aR => exact xd ((Kd.R_reads' HO173.out).2.2))
               (case aB => exact (xs HB.out))
               (case aF => exact (fun k_ hk => ⟨Kd.fresh' (Kd.R_lt (xr HO173.out)) k_ hk, Kd.freshB (g := gb159) (o := .cells #[.int .i64 x160000_1, .bool x160001_1] 31 (0, 0)) (xb BK159.out) k_ hk, Kd.freshB (g := gb170) (o := .cells #[.int .i64 t166, .bool t167] 31 (0, 0)) (xb BK170.out) k_ hk⟩))
               (case aO => exact (xr HO_165000.out))
               (case aS => exact (below_size (xs HB.out)))
               (case aL => have := LMc22.out; omega)
               intro v175 w51 ho hb hg hat
               rw [← Ny174.out] at ho
               replace HO_165001 := Aside0.mk (Kd.R_over' (xr HO_165001.out) (Kd.R_typed (xr HO_165000.out)) (by decide) hg)
               replace HO_165002 := Aside0.mk (Kd.R_over' (xr HO_165002.out) (Kd.R_typed (xr HO_165000.out)) (by decide) hg)
               replace BK158 := Aside0.mk (blk_grown (g := gb158) (o := .cells #[.int .i64 a0_0, .int .i64 a0_1, .int .i64 a0_2, .int .i64 a0_3] 29 (0, 0)) (xb BK158.out) hg (Kd.R_ne HO_165000.out BK158.out (by decide)))
               replace BK159 := Aside0.mk (blk_grown (g := gb159) (o := .cells #[.int .i64 x160000_1, .bool x160001_1] 31 (0, 0)) (xb BK159.out) hg (Kd.R_away HO_165000.out (fun _ hk => hk.2.1)))
               replace BK160 := Aside0.mk (blk_grown (g := gb160) (o := .cells #[.slice none 0 0, .slice none 0 0, .slice none 0 0] 92 (0, 0)) (xb BK160.out) hg (Kd.R_ne HO_165000.out BK160.out (by decide)))
               replace BK164 := Aside0.mk (blk_grown (g := gb164) (o := .cells #[.slice Ao39 x165000_1.length co39, .slice Ao40 x165001_1.length co40, .slice Ao41 x165002_1.length co41] 92 (0, 0)) (xb BK164.out) hg (Kd.R_ne HO_165000.out BK164.out (by decide)))
               replace BK170 := Aside0.mk (blk_grown (g := gb170) (o := .cells #[.int .i64 t166, .bool t167] 31 (0, 0)) (xb BK170.out) hg (Kd.R_away HO_165000.out (fun _ hk => hk.2.2)))
               replace HO173 := Aside0.mk (Kd.R_after (ok := (fun k_ => k_ ≠ gb159 ∧ k_ ≠ gb170)) (xm HO173 (fun _ hk => ⟨⟨hk.2.1, hk.2.2⟩, hk.1⟩)) hg hat)
               replace HO179 := Aside0.mk (Kd.R_over' (xr HO179.out) (Kd.R_typed (xr HO_165000.out)) (by decide) hg)
               replace HO185 := Aside0.mk (Kd.R_over' (xr HO185.out) (Kd.R_typed (xr HO_165000.out)) (by decide) hg)
               replace HB := Aside0.mk (hb)
               have HO176 := Aside0.mk (ho)
               clear HO_165000
               clear ho hb hg hat
               refine hK.out _ _ ⟨(blk_cell BK164.out 0).trans rfl, (blk_cell BK164.out 1).trans rfl, (blk_cell BK164.out 2).trans rfl, (blk_cell BK170.out 0).trans rfl, (blk_cell BK170.out 1).trans rfl⟩ (fun hHeld => ?_)
               clear hK K
               refine norm_ (a' := ?_) ?_ ?_
               rotate_left
               ·show Act.put _ (some 34) _ = _
                simp only [Act.put, List.setIfInBounds_toArray, List.set_cons_zero, List.set_cons_succ, i64_w, i32_w]
                rfl
               refine pure_ (i := 15) (N := some 45) (v := ?_) (a' := ?_) #[true, true, true, true, true, true, true, true, true, false, true, true, true, true, false, true, false, false, false, false, false] rfl rfl (any_of HT_.out (by kernel_rfl)) (fun _ _ _ h => h) (Or.inl ⟨by rfl, ?_⟩) ?_ ?_
               rotate_left
               ·intro w'
                go_simp
                with_reducible rfl
               rotate_left
               ·simp only [Act.put, List.setIfInBounds_toArray, List.set_cons_zero, List.set_cons_succ, i64_w, i32_w]
                rfl
               exact norm_ (by first | (simp only [putAll, Act.put, List.setIfInBounds_toArray, List.set_cons_zero, List.set_cons_succ]; done) | (simp only [putAll, Act.put, List.setIfInBounds_toArray, List.set_cons_zero, List.set_cons_succ]; rfl)) (hJ3_4_8_13 (.slice Ao52 y171.length co52, v175, v178, v184) _ ⟨hHeld, (xm HO173 (fun _ hk => ⟨hk.2, ⟨hk.1.1, hk.1.2⟩⟩)), (xr HO176.out), (xr HO179.out), (xr HO185.out), (xr HO_165001.out), (xr HO_165002.out), (xb BK158.out), (xb BK159.out), (xb BK160.out), (xb BK164.out), (xb BK170.out), (xs HB.out)⟩)
             ·skip
              rintro ⟨v172, v175, v184⟩ w50 ⟨hS_, h0_, h1_, h2_, h3_, h4_, h5_, h6_, h7_, h8_, h9_, h10_⟩
              have n0_ : Aside0 (Kd.R k31 31 w50 w.heap.size (fun k_ => nV k_ v175 ∧ k_ ≠ gb159 ∧ k_ ≠ gb170) v172 y171) := ⟨h0_⟩
              have n1_ : Aside0 (Kd.R k31 31 w50 w.heap.size (fun k_ => nV k_ v172 ∧ k_ ≠ gb159 ∧ k_ ≠ gb170) v175 y174) := ⟨h1_⟩
              have n2_ : Aside0 (Kd.R (Kd.int .i64) 3 w50 w.heap.size (fun k_ => nS k_ Ao40 x165001_1.length co40 ∧ nS k_ Ao41 x165002_1.length co41) v184 y183) := ⟨h2_⟩
              have n3_ : Aside0 (Kd.R (Kd.int .i64) 3 w50 w.heap.size (fun k_ => nV k_ v184 ∧ nS k_ Ao41 x165002_1.length co41) (.slice Ao40 x165001_1.length co40) x165001_1) := ⟨h3_⟩
              have n4_ : Aside0 (Kd.R (Kd.int .i64) 3 w50 w.heap.size (fun k_ => nV k_ v184 ∧ nS k_ Ao40 x165001_1.length co40) (.slice Ao41 x165002_1.length co41) x165002_1) := ⟨h4_⟩
              have n5_ : Aside0 (w50.heap[gb158]? = some (.cells #[.int .i64 a0_0, .int .i64 a0_1, .int .i64 a0_2, .int .i64 a0_3] 29 (0, 0))) := ⟨h5_⟩
              have n6_ : Aside0 (w50.heap[gb159]? = some (.cells #[.int .i64 x160000_1, .bool x160001_1] 31 (0, 0))) := ⟨h6_⟩
              have n7_ : Aside0 (w50.heap[gb160]? = some (.cells #[.slice none 0 0, .slice none 0 0, .slice none 0 0] 92 (0, 0))) := ⟨h7_⟩
              have n8_ : Aside0 (w50.heap[gb164]? = some (.cells #[.slice Ao39 x165000_1.length co39, .slice Ao40 x165001_1.length co40, .slice Ao41 x165002_1.length co41] 92 (0, 0))) := ⟨h8_⟩
              have n9_ : Aside0 (w50.heap[gb170]? = some (.cells #[.int .i64 t166, .bool t167] 31 (0, 0))) := ⟨h9_⟩
              have n10_ : Aside0 (Below w.heap.size w w50) := ⟨h10_⟩
              clear HO_165000
              clear HO_165001
              clear HO_165002
              clear BK158
              clear BK159
              clear BK160
              clear BK164
              clear BK170
              clear HB
              clear h0_ h1_ h2_ h3_ h4_ h5_ h6_ h7_ h8_ h9_ h10_
              have HO173 := n0_
              have HO176 := n1_
              have HO185 := n2_
              have HO_165001 := n3_
              have HO_165002 := n4_
              have BK158 := n5_
              have BK159 := n6_
              have BK160 := n7_
              have BK164 := n8_
              have BK170 := n9_
              have HB := n10_
              clear n0_ n1_ n2_ n3_ n4_ n5_ n6_ n7_ n8_ n9_ n10_
              have hHeld : w50.cell? ⟨gb164, 0, none⟩ = some (.slice Ao39 x165000_1.length co39) ∧ w50.cell? ⟨gb164, 1, none⟩ = some (.slice Ao40 x165001_1.length co40) ∧ w50.cell? ⟨gb164, 2, none⟩ = some (.slice Ao41 x165002_1.length co41) ∧ w50.cell? ⟨gb170, 0, none⟩ = some (.int .i64 t166) ∧ w50.cell? ⟨gb170, 1, none⟩ = some (.bool t167) := hS_
              refine norm_ (a' := ?_) ?_ ?_
              rotate_left
              ·simp only [putAll, Act.put, List.setIfInBounds_toArray, List.set_cons_zero, List.set_cons_succ]
               rfl
              refine one_ (i := 8) (N := some 38) #[true, true, true, true, true, true, true, true, true, false, true, true, true, true, false, true, false, false, false, false, false] rfl rfl (one_of HT_.out (by kernel_rfl)) (by decide) (fun K hK => ?_)
              refine Kd.R_lit_step (Kd.int .i64) _ 3 ?hg (N := 38) ?hd (xs := ([t168] : List Int)) (inner := [.int .i64 t168]) (ok := fun _ => True) (okp := fun _ => True) ?hr ?hp (fun _ hk => hk) trivial (Below.refl _ _) (Nat.le_refl _) (by simp) ?_; (case hd => rfl); (case hg => rfl); (case hr => first | (go_simp; done) | (go_simp; rfl)); (case hp => exact (Reps.one (show Kd.M (Kd.int .i64) _ _ _ t168 [.int .i64 t168] from rfl) (Reps.none _ _)))
              intro v178 w51 ho52 hb hg_ hnew_
              clear hg_ hnew_
              (first | rw [← Ny177.out] at ho52 | (simp only [Int.reduceToNat] at ho52; rw [← Ny177.out] at ho52))
              replace HO173 := xq HO173 hb
              replace HO176 := xq HO176 hb
              have HO179 := Aside0.mk (Kd.R_lower (Kd.R_new' (Kd.R_new' (Kd.R_new' ho52 (Kd.R_lt (xr HO_165001.out))) (Kd.R_lt (xr HO_165002.out))) (Kd.R_lt (xr HO185.out))) (below_size (xs HB.out)))
              replace HO_165001 := Aside0.mk (Kd.R_elder' (xr HO_165001.out) (Kd.R_base ho52) hb)
              replace HO_165002 := Aside0.mk (Kd.R_elder' (xr HO_165002.out) (Kd.R_base ho52) hb)
              replace HO185 := Aside0.mk (Kd.R_elder' (xr HO185.out) (Kd.R_base ho52) hb)
              replace BK158 := xk BK158 hb
              replace BK159 := xk BK159 hb
              replace BK160 := xk BK160 hb
              replace BK164 := xk BK164 hb
              replace BK170 := xk BK170 hb
              replace HB := xp HB hb
              clear hb ho52
              refine hK.out _ _ ⟨(blk_cell BK164.out 0).trans rfl, (blk_cell BK164.out 1).trans rfl, (blk_cell BK164.out 2).trans rfl, (blk_cell BK170.out 0).trans rfl, (blk_cell BK170.out 1).trans rfl⟩ (fun hHeld => ?_)
              clear hK K
              refine norm_ (a' := ?_) ?_ ?_
              rotate_left
              ·show Act.put _ (some 38) _ = _
               simp only [Act.put, List.setIfInBounds_toArray, List.set_cons_zero, List.set_cons_succ, i64_w, i32_w]
               rfl
              exact norm_ (by first | (simp only [putAll, Act.put, List.setIfInBounds_toArray, List.set_cons_zero, List.set_cons_succ]; done) | (simp only [putAll, Act.put, List.setIfInBounds_toArray, List.set_cons_zero, List.set_cons_succ]; rfl)) (hJ3_4_8_13 (v172, v175, v178, v184) _ ⟨hHeld, (xr HO173.out), (xr HO176.out), (xm HO179 (fun _ hk => ⟨hk.2, ⟨hk.1.1.2, hk.1.2⟩⟩)), (xm HO185 (fun _ hk => ⟨hk.2, ⟨hk.1.1, hk.1.2⟩⟩)), (xm HO_165001 (fun _ hk => ⟨hk.2, ⟨hk.1.1, hk.1.2⟩⟩)), (xm HO_165002 (fun _ hk => ⟨hk.2, ⟨hk.1.1, hk.1.2⟩⟩)), (xb BK158.out), (xb BK159.out), (xb BK160.out), (xb BK164.out), (xb BK170.out), (xs HB.out)⟩)
            ·skip
             rintro ⟨v172, v175, v178⟩ w50 ⟨hS_, h0_, h1_, h2_, h3_, h4_, h5_, h6_, h7_, h8_, h9_, h10_⟩
             have n0_ : Aside0 (Kd.R k31 31 w50 w.heap.size (fun k_ => nV k_ v175 ∧ k_ ≠ gb159 ∧ k_ ≠ gb170) v172 y171) := ⟨h0_⟩
             have n1_ : Aside0 (Kd.R k31 31 w50 w.heap.size (fun k_ => nV k_ v172 ∧ k_ ≠ gb159 ∧ k_ ≠ gb170) v175 y174) := ⟨h1_⟩
             have n2_ : Aside0 (Kd.R (Kd.int .i64) 3 w50 w.heap.size (fun k_ => nS k_ Ao40 x165001_1.length co40 ∧ nS k_ Ao41 x165002_1.length co41) v178 y177) := ⟨h2_⟩
             have n3_ : Aside0 (Kd.R (Kd.int .i64) 3 w50 w.heap.size (fun k_ => nV k_ v178 ∧ nS k_ Ao41 x165002_1.length co41) (.slice Ao40 x165001_1.length co40) x165001_1) := ⟨h3_⟩
             have n4_ : Aside0 (Kd.R (Kd.int .i64) 3 w50 w.heap.size (fun k_ => nV k_ v178 ∧ nS k_ Ao40 x165001_1.length co40) (.slice Ao41 x165002_1.length co41) x165002_1) := ⟨h4_⟩
             have n5_ : Aside0 (w50.heap[gb158]? = some (.cells #[.int .i64 a0_0, .int .i64 a0_1, .int .i64 a0_2, .int .i64 a0_3] 29 (0, 0))) := ⟨h5_⟩
             have n6_ : Aside0 (w50.heap[gb159]? = some (.cells #[.int .i64 x160000_1, .bool x160001_1] 31 (0, 0))) := ⟨h6_⟩
             have n7_ : Aside0 (w50.heap[gb160]? = some (.cells #[.slice none 0 0, .slice none 0 0, .slice none 0 0] 92 (0, 0))) := ⟨h7_⟩
             have n8_ : Aside0 (w50.heap[gb164]? = some (.cells #[.slice Ao39 x165000_1.length co39, .slice Ao40 x165001_1.length co40, .slice Ao41 x165002_1.length co41] 92 (0, 0))) := ⟨h8_⟩
             have n9_ : Aside0 (w50.heap[gb170]? = some (.cells #[.int .i64 t166, .bool t167] 31 (0, 0))) := ⟨h9_⟩
             have n10_ : Aside0 (Below w.heap.size w w50) := ⟨h10_⟩
             clear HO_165000
             clear HO_165001
             clear HO_165002
             clear BK158
             clear BK159
             clear BK160
             clear BK164
             clear BK170
             clear HB
             clear h0_ h1_ h2_ h3_ h4_ h5_ h6_ h7_ h8_ h9_ h10_
             have HO173 := n0_
             have HO176 := n1_
             have HO179 := n2_
             have HO_165001 := n3_
             have HO_165002 := n4_
             have BK158 := n5_
             have BK159 := n6_
             have BK160 := n7_
             have BK164 := n8_
             have BK170 := n9_
             have HB := n10_
             clear n0_ n1_ n2_ n3_ n4_ n5_ n6_ n7_ n8_ n9_ n10_
             have hHeld : w50.cell? ⟨gb164, 0, none⟩ = some (.slice Ao39 x165000_1.length co39) ∧ w50.cell? ⟨gb164, 1, none⟩ = some (.slice Ao40 x165001_1.length co40) ∧ w50.cell? ⟨gb164, 2, none⟩ = some (.slice Ao41 x165002_1.length co41) ∧ w50.cell? ⟨gb170, 0, none⟩ = some (.int .i64 t166) ∧ w50.cell? ⟨gb170, 1, none⟩ = some (.bool t167) := hS_
             obtain ⟨Ao52, co52, eo52⟩ := Kd.R_slice HO179.out
             (first | subst eo52 | (injection eo52 with f1_ f2_ f3_; have f4_ := f1_.symm; have f5_ := f3_.symm; clear f1_ f2_ f3_; subst f4_; subst f5_))
             refine norm_ (a' := ?_) ?_ ?_
             rotate_left
             ·simp only [putAll, Act.put, List.setIfInBounds_toArray, List.set_cons_zero, List.set_cons_succ]
              rfl
             refine two_ (i := 9) (j := 13) (Ni := some 39) (Nj := some 43) #[true, true, true, true, true, true, true, true, true, true, true, true, true, false, false, true, false, false, false, false, false] #[true, true, true, true, true, true, true, true, true, false, true, true, true, true, false, true, false, false, false, false, false] rfl rfl rfl rfl (two_of HT_.out (by kernel_rfl)) (by decide) (by decide) (fun K hK => ?_) (fun K hK => ?_)
             ·skip
              refine Kd.R_append_rows_step (Kd.int .i64) (w0 := w) w.heap.size (by rfl) (.tmp 36) (.tmp 38) 26 3 (.int .i64 0) 8 rfl Try.underlying26 info3 rfl (by decide) (by omega) (.slice Ao40 x165001_1.length co40) x165001_1 y177 _ _ _ (fun k_ => nS k_ Ao41 x165002_1.length co41 ∧ nS k_ Ao52 y177.length co52) (fun _ => False) rfl rfl ?aO ?aR (fun _ _ h => h) (fun _ h => h.elim) ?aF ?aB ?aS ?aL ?_
              (case aR => exact xd ((Kd.R_reads' HO179.out).2.2))
              (case aB => exact (xs HB.out))
              (case aF => exact (fun k_ hk => ⟨Kd.fresh' (Kd.R_lt (xr HO_165002.out)) k_ hk, Kd.fresh' (Kd.R_lt (xr HO179.out)) k_ hk⟩))
              (case aO => exact (xm HO_165001 (fun _ hk => ⟨hk.2, hk.1⟩)))
              (case aS => exact (below_size (xs HB.out)))
              (case aL => have := LMc23.out; omega)
              intro v181 w51 ho hb hg hat
              rw [← Ny180.out] at ho
              replace HO_165002 := Aside0.mk (Kd.R_after (ok := (fun k_ => nS k_ Ao52 y177.length co52)) (xr HO_165002.out) hg hat)
              replace BK158 := Aside0.mk (blk_grown (g := gb158) (o := .cells #[.int .i64 a0_0, .int .i64 a0_1, .int .i64 a0_2, .int .i64 a0_3] 29 (0, 0)) (xb BK158.out) hg (Kd.R_ne HO_165001.out BK158.out (by decide)))
              replace BK159 := Aside0.mk (blk_grown (g := gb159) (o := .cells #[.int .i64 x160000_1, .bool x160001_1] 31 (0, 0)) (xb BK159.out) hg (Kd.R_ne HO_165001.out BK159.out (by decide)))
              replace BK160 := Aside0.mk (blk_grown (g := gb160) (o := .cells #[.slice none 0 0, .slice none 0 0, .slice none 0 0] 92 (0, 0)) (xb BK160.out) hg (Kd.R_ne HO_165001.out BK160.out (by decide)))
              replace BK164 := Aside0.mk (blk_grown (g := gb164) (o := .cells #[.slice Ao39 x165000_1.length co39, .slice Ao40 x165001_1.length co40, .slice Ao41 x165002_1.length co41] 92 (0, 0)) (xb BK164.out) hg (Kd.R_ne HO_165001.out BK164.out (by decide)))
              replace BK170 := Aside0.mk (blk_grown (g := gb170) (o := .cells #[.int .i64 t166, .bool t167] 31 (0, 0)) (xb BK170.out) hg (Kd.R_ne HO_165001.out BK170.out (by decide)))
              replace HO173 := Aside0.mk (Kd.R_over' (xr HO173.out) (Kd.R_typed (xr HO_165001.out)) (by decide) hg)
              replace HO176 := Aside0.mk (Kd.R_over' (xr HO176.out) (Kd.R_typed (xr HO_165001.out)) (by decide) hg)
              replace HO179 := Aside0.mk (Kd.R_after (ok := (fun k_ => nS k_ Ao41 x165002_1.length co41)) (xm HO179 (fun _ hk => ⟨hk.2, hk.1⟩)) hg hat)
              replace HB := Aside0.mk (hb)
              have HO182 := Aside0.mk (ho)
              clear HO_165001
              clear ho hb hg hat
              refine hK.out _ _ ⟨(blk_cell BK164.out 0).trans rfl, (blk_cell BK164.out 1).trans rfl, (blk_cell BK164.out 2).trans rfl, (blk_cell BK170.out 0).trans rfl, (blk_cell BK170.out 1).trans rfl⟩ (fun hHeld => ?_)
              clear hK K
              refine norm_ (a' := ?_) ?_ ?_
              rotate_left
              ·show Act.put _ (some 39) _ = _
               simp only [Act.put, List.setIfInBounds_toArray, List.set_cons_zero, List.set_cons_succ, i64_w, i32_w]
               rfl
              exact norm_ (by first | (simp only [putAll, Act.put, List.setIfInBounds_toArray, List.set_cons_zero, List.set_cons_succ]; done) | (simp only [putAll, Act.put, List.setIfInBounds_toArray, List.set_cons_zero, List.set_cons_succ]; rfl)) (hJ3_4_8_9 (v172, v175, .slice Ao52 y177.length co52, v181) _ ⟨hHeld, (xr HO173.out), (xr HO176.out), (xm HO179 (fun _ hk => ⟨hk.2, hk.1⟩)), (xm HO182 (fun _ hk => ⟨hk.2, hk.1⟩)), (xr HO_165002.out), (xb BK158.out), (xb BK159.out), (xb BK160.out), (xb BK164.out), (xb BK170.out), (xs HB.out)⟩)
             ·skip
              refine Kd.R_lit_step (Kd.int .i64) _ 3 ?hg (N := 43) ?hd (xs := ([t169] : List Int)) (inner := [.int .i64 t169]) (ok := fun _ => True) (okp := fun _ => True) ?hr ?hp (fun _ hk => hk) trivial (Below.refl _ _) (Nat.le_refl _) (by simp) ?_; (case hd => rfl); (case hg => rfl); (case hr => first | (go_simp; done) | (go_simp; rfl)); (case hp => exact (Reps.one (show Kd.M (Kd.int .i64) _ _ _ t169 [.int .i64 t169] from rfl) (Reps.none _ _)))
              intro v184 w51 ho52 hb hg_ hnew_
              clear hg_ hnew_
              (first | rw [← Ny183.out] at ho52 | (simp only [Int.reduceToNat] at ho52; rw [← Ny183.out] at ho52))
              replace HO173 := xq HO173 hb
              replace HO176 := xq HO176 hb
              have HO185 := Aside0.mk (Kd.R_lower (Kd.R_new' (Kd.R_new' (Kd.R_new' ho52 (Kd.R_lt (xr HO_165001.out))) (Kd.R_lt (xr HO_165002.out))) (Kd.R_lt (xr HO179.out))) (below_size (xs HB.out)))
              replace HO_165001 := Aside0.mk (Kd.R_elder' (xr HO_165001.out) (Kd.R_base ho52) hb)
              replace HO_165002 := Aside0.mk (Kd.R_elder' (xr HO_165002.out) (Kd.R_base ho52) hb)
              replace HO179 := Aside0.mk (Kd.R_elder' (xr HO179.out) (Kd.R_base ho52) hb)
              replace BK158 := xk BK158 hb
              replace BK159 := xk BK159 hb
              replace BK160 := xk BK160 hb
              replace BK164 := xk BK164 hb
              replace BK170 := xk BK170 hb
              replace HB := xp HB hb
              clear hb ho52
              refine hK.out _ _ ⟨(blk_cell BK164.out 0).trans rfl, (blk_cell BK164.out 1).trans rfl, (blk_cell BK164.out 2).trans rfl, (blk_cell BK170.out 0).trans rfl, (blk_cell BK170.out 1).trans rfl⟩ (fun hHeld => ?_)
              clear hK K
              refine norm_ (a' := ?_) ?_ ?_
              rotate_left
              ·show Act.put _ (some 43) _ = _
               simp only [Act.put, List.setIfInBounds_toArray, List.set_cons_zero, List.set_cons_succ, i64_w, i32_w]
               rfl
              exact norm_ (by first | (simp only [putAll, Act.put, List.setIfInBounds_toArray, List.set_cons_zero, List.set_cons_succ]; done) | (simp only [putAll, Act.put, List.setIfInBounds_toArray, List.set_cons_zero, List.set_cons_succ]; rfl)) (hJ3_4_8_13 (v172, v175, .slice Ao52 y177.length co52, v184) _ ⟨hHeld, (xr HO173.out), (xr HO176.out), (xm HO179 (fun _ hk => ⟨hk.2, ⟨hk.1.1, hk.1.2⟩⟩)), (xm HO185 (fun _ hk => ⟨hk.2, ⟨hk.1.1.2, hk.1.2⟩⟩)), (xm HO_165001 (fun _ hk => ⟨hk.1.1, ⟨hk.2, hk.1.2⟩⟩)), (xm HO_165002 (fun _ hk => ⟨hk.1.1, ⟨hk.2, hk.1.2⟩⟩)), (xb BK158.out), (xb BK159.out), (xb BK160.out), (xb BK164.out), (xb BK170.out), (xs HB.out)⟩)
           ·skip
            rintro ⟨v172, v175, v178, v184⟩ w52 ⟨hS_, h0_, h1_, h2_, h3_, h4_, h5_, h6_, h7_, h8_, h9_, h10_, h11_⟩
            have n0_ : Aside0 (Kd.R k31 31 w52 w.heap.size (fun k_ => nV k_ v175 ∧ k_ ≠ gb159 ∧ k_ ≠ gb170) v172 y171) := ⟨h0_⟩
            have n1_ : Aside0 (Kd.R k31 31 w52 w.heap.size (fun k_ => nV k_ v172 ∧ k_ ≠ gb159 ∧ k_ ≠ gb170) v175 y174) := ⟨h1_⟩
            have n2_ : Aside0 (Kd.R (Kd.int .i64) 3 w52 w.heap.size (fun k_ => nV k_ v184 ∧ nS k_ Ao40 x165001_1.length co40 ∧ nS k_ Ao41 x165002_1.length co41) v178 y177) := ⟨h2_⟩
            have n3_ : Aside0 (Kd.R (Kd.int .i64) 3 w52 w.heap.size (fun k_ => nV k_ v178 ∧ nS k_ Ao40 x165001_1.length co40 ∧ nS k_ Ao41 x165002_1.length co41) v184 y183) := ⟨h3_⟩
            have n4_ : Aside0 (Kd.R (Kd.int .i64) 3 w52 w.heap.size (fun k_ => nV k_ v178 ∧ nV k_ v184 ∧ nS k_ Ao41 x165002_1.length co41) (.slice Ao40 x165001_1.length co40) x165001_1) := ⟨h4_⟩
            have n5_ : Aside0 (Kd.R (Kd.int .i64) 3 w52 w.heap.size (fun k_ => nV k_ v178 ∧ nV k_ v184 ∧ nS k_ Ao40 x165001_1.length co40) (.slice Ao41 x165002_1.length co41) x165002_1) := ⟨h5_⟩
            have n6_ : Aside0 (w52.heap[gb158]? = some (.cells #[.int .i64 a0_0, .int .i64 a0_1, .int .i64 a0_2, .int .i64 a0_3] 29 (0, 0))) := ⟨h6_⟩
            have n7_ : Aside0 (w52.heap[gb159]? = some (.cells #[.int .i64 x160000_1, .bool x160001_1] 31 (0, 0))) := ⟨h7_⟩
            have n8_ : Aside0 (w52.heap[gb160]? = some (.cells #[.slice none 0 0, .slice none 0 0, .slice none 0 0] 92 (0, 0))) := ⟨h8_⟩
            have n9_ : Aside0 (w52.heap[gb164]? = some (.cells #[.slice Ao39 x165000_1.length co39, .slice Ao40 x165001_1.length co40, .slice Ao41 x165002_1.length co41] 92 (0, 0))) := ⟨h9_⟩
            have n10_ : Aside0 (w52.heap[gb170]? = some (.cells #[.int .i64 t166, .bool t167] 31 (0, 0))) := ⟨h10_⟩
            have n11_ : Aside0 (Below w.heap.size w w52) := ⟨h11_⟩
            clear HO_165000
            clear HO_165001
            clear HO_165002
            clear BK158
            clear BK159
            clear BK160
            clear BK164
            clear BK170
            clear HB
            clear h0_ h1_ h2_ h3_ h4_ h5_ h6_ h7_ h8_ h9_ h10_ h11_
            have HO173 := n0_
            have HO176 := n1_
            have HO179 := n2_
            have HO185 := n3_
            have HO_165001 := n4_
            have HO_165002 := n5_
            have BK158 := n6_
            have BK159 := n7_
            have BK160 := n8_
            have BK164 := n9_
            have BK170 := n10_
            have HB := n11_
            clear n0_ n1_ n2_ n3_ n4_ n5_ n6_ n7_ n8_ n9_ n10_ n11_
            have hHeld : w52.cell? ⟨gb164, 0, none⟩ = some (.slice Ao39 x165000_1.length co39) ∧ w52.cell? ⟨gb164, 1, none⟩ = some (.slice Ao40 x165001_1.length co40) ∧ w52.cell? ⟨gb164, 2, none⟩ = some (.slice Ao41 x165002_1.length co41) ∧ w52.cell? ⟨gb170, 0, none⟩ = some (.int .i64 t166) ∧ w52.cell? ⟨gb170, 1, none⟩ = some (.bool t167) := hS_
            obtain ⟨Ao54, co54, eo54⟩ := Kd.R_slice HO179.out
            (first | subst eo54 | (injection eo54 with f1_ f2_ f3_; have f4_ := f1_.symm; have f5_ := f3_.symm; clear f1_ f2_ f3_; subst f4_; subst f5_))
            refine norm_ (a' := ?_) ?_ ?_
            rotate_left
            ·simp only [putAll, Act.put, List.setIfInBounds_toArray, List.set_cons_zero, List.set_cons_succ]
             rfl
            refine one_ (i := 9) (N := some 39) #[true, true, true, true, true, true, true, true, true, true, true, true, true, true, false, true, false, false, false, false, false] rfl rfl (one_of HT_.out (by kernel_rfl)) (by decide) (fun K hK => ?_)
            refine Kd.R_append_rows_step (Kd.int .i64) (w0 := w) w.heap.size (by rfl) (.tmp 36) (.tmp 38) 26 3 (.int .i64 0) 8 rfl Try.underlying26 info3 rfl (by decide) (by omega) (.slice Ao40 x165001_1.length co40) x165001_1 y177 _ _ _ (fun k_ => nS k_ Ao41 x165002_1.length co41 ∧ nS k_ Ao54 y177.length co54 ∧ nV k_ v184) (fun _ => False) rfl rfl ?aO ?aR (fun _ _ h => h) (fun _ h => h.elim) ?aF ?aB ?aS ?aL ?_
            (case aR => exact xd ((Kd.R_reads' HO179.out).2.2))
            (case aB => exact (xs HB.out))
            (case aF => exact (fun k_ hk => ⟨Kd.fresh' (Kd.R_lt (xr HO_165002.out)) k_ hk, Kd.fresh' (Kd.R_lt (xr HO179.out)) k_ hk, Kd.fresh' (Kd.R_lt (xr HO185.out)) k_ hk⟩))
            (case aO => exact (xm HO_165001 (fun _ hk => ⟨hk.2.2, ⟨hk.1, hk.2.1⟩⟩)))
            (case aS => exact (below_size (xs HB.out)))
            (case aL => have := LMc23.out; omega)
            intro v181 w53 ho hb hg hat
            rw [← Ny180.out] at ho
            replace HO_165002 := Aside0.mk (Kd.R_after (ok := (fun k_ => nS k_ Ao54 y177.length co54 ∧ nV k_ v184)) (xm HO_165002 (fun _ hk => ⟨⟨hk.1, hk.2.1⟩, hk.2.2⟩)) hg hat)
            replace BK158 := Aside0.mk (blk_grown (g := gb158) (o := .cells #[.int .i64 a0_0, .int .i64 a0_1, .int .i64 a0_2, .int .i64 a0_3] 29 (0, 0)) (xb BK158.out) hg (Kd.R_ne HO_165001.out BK158.out (by decide)))
            replace BK159 := Aside0.mk (blk_grown (g := gb159) (o := .cells #[.int .i64 x160000_1, .bool x160001_1] 31 (0, 0)) (xb BK159.out) hg (Kd.R_ne HO_165001.out BK159.out (by decide)))
            replace BK160 := Aside0.mk (blk_grown (g := gb160) (o := .cells #[.slice none 0 0, .slice none 0 0, .slice none 0 0] 92 (0, 0)) (xb BK160.out) hg (Kd.R_ne HO_165001.out BK160.out (by decide)))
            replace BK164 := Aside0.mk (blk_grown (g := gb164) (o := .cells #[.slice Ao39 x165000_1.length co39, .slice Ao40 x165001_1.length co40, .slice Ao41 x165002_1.length co41] 92 (0, 0)) (xb BK164.out) hg (Kd.R_ne HO_165001.out BK164.out (by decide)))
            replace BK170 := Aside0.mk (blk_grown (g := gb170) (o := .cells #[.int .i64 t166, .bool t167] 31 (0, 0)) (xb BK170.out) hg (Kd.R_ne HO_165001.out BK170.out (by decide)))
            replace HO173 := Aside0.mk (Kd.R_over' (xr HO173.out) (Kd.R_typed (xr HO_165001.out)) (by decide) hg)
            replace HO176 := Aside0.mk (Kd.R_over' (xr HO176.out) (Kd.R_typed (xr HO_165001.out)) (by decide) hg)
            replace HO179 := Aside0.mk (Kd.R_after (ok := (fun k_ => nS k_ Ao41 x165002_1.length co41 ∧ nV k_ v184)) (xm HO179 (fun _ hk => ⟨⟨hk.2.2, hk.1⟩, hk.2.1⟩)) hg hat)
            replace HO185 := Aside0.mk (Kd.R_after (ok := (fun k_ => nS k_ Ao41 x165002_1.length co41 ∧ nS k_ Ao54 y177.length co54)) (xm HO185 (fun _ hk => ⟨⟨hk.2.2, hk.1⟩, hk.2.1⟩)) hg hat)
            replace HB := Aside0.mk (hb)
            have HO182 := Aside0.mk (ho)
            clear HO_165001
            clear ho hb hg hat
            refine hK.out _ _ ⟨(blk_cell BK164.out 0).trans rfl, (blk_cell BK164.out 1).trans rfl, (blk_cell BK164.out 2).trans rfl, (blk_cell BK170.out 0).trans rfl, (blk_cell BK170.out 1).trans rfl⟩ (fun hHeld => ?_)
            clear hK K
            refine norm_ (a' := ?_) ?_ ?_
            rotate_left
            ·show Act.put _ (some 39) _ = _
             simp only [Act.put, List.setIfInBounds_toArray, List.set_cons_zero, List.set_cons_succ, i64_w, i32_w]
             rfl
            exact norm_ (by first | (simp only [putAll, Act.put, List.setIfInBounds_toArray, List.set_cons_zero, List.set_cons_succ]; done) | (simp only [putAll, Act.put, List.setIfInBounds_toArray, List.set_cons_zero, List.set_cons_succ]; rfl)) (hJ3_4_8_9_13 (v172, v175, .slice Ao54 y177.length co54, v181, v184) _ ⟨hHeld, (xr HO173.out), (xr HO176.out), (xm HO179 (fun _ hk => ⟨hk.2, ⟨hk.1.2, hk.1.1⟩⟩)), (xm HO182 (fun _ hk => ⟨hk.2.1, ⟨hk.2.2, hk.1⟩⟩)), (xm HO185 (fun _ hk => ⟨hk.1.2, ⟨hk.2, hk.1.1⟩⟩)), (xm HO_165002 (fun _ hk => ⟨hk.1.1, ⟨hk.2, hk.1.2⟩⟩)), (xb BK158.out), (xb BK159.out), (xb BK160.out), (xb BK164.out), (xb BK170.out), (xs HB.out)⟩)
          ·skip
           rintro ⟨v172, v175, v178, v181⟩ w52 ⟨hS_, h0_, h1_, h2_, h3_, h4_, h5_, h6_, h7_, h8_, h9_, h10_⟩
           have n0_ : Aside0 (Kd.R k31 31 w52 w.heap.size (fun k_ => nV k_ v175 ∧ k_ ≠ gb159 ∧ k_ ≠ gb170) v172 y171) := ⟨h0_⟩
           have n1_ : Aside0 (Kd.R k31 31 w52 w.heap.size (fun k_ => nV k_ v172 ∧ k_ ≠ gb159 ∧ k_ ≠ gb170) v175 y174) := ⟨h1_⟩
           have n2_ : Aside0 (Kd.R (Kd.int .i64) 3 w52 w.heap.size (fun k_ => nV k_ v181 ∧ nS k_ Ao41 x165002_1.length co41) v178 y177) := ⟨h2_⟩
           have n3_ : Aside0 (Kd.R (Kd.int .i64) 3 w52 w.heap.size (fun k_ => nV k_ v178 ∧ nS k_ Ao41 x165002_1.length co41) v181 y180) := ⟨h3_⟩
           have n4_ : Aside0 (Kd.R (Kd.int .i64) 3 w52 w.heap.size (fun k_ => nV k_ v178 ∧ nV k_ v181) (.slice Ao41 x165002_1.length co41) x165002_1) := ⟨h4_⟩
           have n5_ : Aside0 (w52.heap[gb158]? = some (.cells #[.int .i64 a0_0, .int .i64 a0_1, .int .i64 a0_2, .int .i64 a0_3] 29 (0, 0))) := ⟨h5_⟩
           have n6_ : Aside0 (w52.heap[gb159]? = some (.cells #[.int .i64 x160000_1, .bool x160001_1] 31 (0, 0))) := ⟨h6_⟩
           have n7_ : Aside0 (w52.heap[gb160]? = some (.cells #[.slice none 0 0, .slice none 0 0, .slice none 0 0] 92 (0, 0))) := ⟨h7_⟩
           have n8_ : Aside0 (w52.heap[gb164]? = some (.cells #[.slice Ao39 x165000_1.length co39, .slice Ao40 x165001_1.length co40, .slice Ao41 x165002_1.length co41] 92 (0, 0))) := ⟨h8_⟩
           have n9_ : Aside0 (w52.heap[gb170]? = some (.cells #[.int .i64 t166, .bool t167] 31 (0, 0))) := ⟨h9_⟩
           have n10_ : Aside0 (Below w.heap.size w w52) := ⟨h10_⟩
           clear HO_165000
           clear HO_165001
           clear HO_165002
           clear BK158
           clear BK159
           clear BK160
           clear BK164
           clear BK170
           clear HB
           clear h0_ h1_ h2_ h3_ h4_ h5_ h6_ h7_ h8_ h9_ h10_
           have HO173 := n0_
           have HO176 := n1_
           have HO179 := n2_
           have HO182 := n3_
           have HO_165002 := n4_
           have BK158 := n5_
           have BK159 := n6_
           have BK160 := n7_
           have BK164 := n8_
           have BK170 := n9_
           have HB := n10_
           clear n0_ n1_ n2_ n3_ n4_ n5_ n6_ n7_ n8_ n9_ n10_
           have hHeld : w52.cell? ⟨gb164, 0, none⟩ = some (.slice Ao39 x165000_1.length co39) ∧ w52.cell? ⟨gb164, 1, none⟩ = some (.slice Ao40 x165001_1.length co40) ∧ w52.cell? ⟨gb164, 2, none⟩ = some (.slice Ao41 x165002_1.length co41) ∧ w52.cell? ⟨gb170, 0, none⟩ = some (.int .i64 t166) ∧ w52.cell? ⟨gb170, 1, none⟩ = some (.bool t167) := hS_
           refine norm_ (a' := ?_) ?_ ?_
           rotate_left
           ·simp only [putAll, Act.put, List.setIfInBounds_toArray, List.set_cons_zero, List.set_cons_succ]
            rfl
           refine one_ (i := 13) (N := some 43) #[true, true, true, true, true, true, true, true, true, true, true, true, true, true, false, true, false, false, false, false, false] rfl rfl (one_of HT_.out (by kernel_rfl)) (by decide) (fun K hK => ?_)
           refine Kd.R_lit_step (Kd.int .i64) _ 3 ?hg (N := 43) ?hd (xs := ([t169] : List Int)) (inner := [.int .i64 t169]) (ok := fun _ => True) (okp := fun _ => True) ?hr ?hp (fun _ hk => hk) trivial (Below.refl _ _) (Nat.le_refl _) (by simp) ?_; (case hd => rfl); (case hg => rfl); (case hr => first | (go_simp; done) | (go_simp; rfl)); (case hp => exact (Reps.one (show Kd.M (Kd.int .i64) _ _ _ t169 [.int .i64 t169] from rfl) (Reps.none _ _)))
           intro v184 w53 ho54 hb hg_ hnew_
           clear hg_ hnew_
           (first | rw [← Ny183.out] at ho54 | (simp only [Int.reduceToNat] at ho54; rw [← Ny183.out] at ho54))
           replace HO173 := xq HO173 hb
           replace HO176 := xq HO176 hb
           have HO185 := Aside0.mk (Kd.R_lower (Kd.R_new' (Kd.R_new' (Kd.R_new' ho54 (Kd.R_lt (xr HO_165002.out))) (Kd.R_lt (xr HO179.out))) (Kd.R_lt (xr HO182.out))) (below_size (xs HB.out)))
           replace HO_165002 := Aside0.mk (Kd.R_elder' (xr HO_165002.out) (Kd.R_base ho54) hb)
           replace HO179 := Aside0.mk (Kd.R_elder' (xr HO179.out) (Kd.R_base ho54) hb)
           replace HO182 := Aside0.mk (Kd.R_elder' (xr HO182.out) (Kd.R_base ho54) hb)
           replace BK158 := xk BK158 hb
           replace BK159 := xk BK159 hb
           replace BK160 := xk BK160 hb
           replace BK164 := xk BK164 hb
           replace BK170 := xk BK170 hb
           replace HB := xp HB hb
           clear hb ho54
           refine hK.out _ _ ⟨(blk_cell BK164.out 0).trans rfl, (blk_cell BK164.out 1).trans rfl, (blk_cell BK164.out 2).trans rfl, (blk_cell BK170.out 0).trans rfl, (blk_cell BK170.out 1).trans rfl⟩ (fun hHeld => ?_)
           clear hK K
           refine norm_ (a' := ?_) ?_ ?_
           rotate_left
           ·show Act.put _ (some 43) _ = _
            simp only [Act.put, List.setIfInBounds_toArray, List.set_cons_zero, List.set_cons_succ, i64_w, i32_w]
            rfl
           exact norm_ (by first | (simp only [putAll, Act.put, List.setIfInBounds_toArray, List.set_cons_zero, List.set_cons_succ]; done) | (simp only [putAll, Act.put, List.setIfInBounds_toArray, List.set_cons_zero, List.set_cons_succ]; rfl)) (hJ3_4_8_9_13 (v172, v175, v178, v181, v184) _ ⟨hHeld, (xr HO173.out), (xr HO176.out), (xm HO179 (fun _ hk => ⟨hk.1.1, ⟨hk.2, hk.1.2⟩⟩)), (xm HO182 (fun _ hk => ⟨hk.1.1, ⟨hk.2, hk.1.2⟩⟩)), (xm HO185 (fun _ hk => ⟨hk.1.2, ⟨hk.2, hk.1.1.2⟩⟩)), (xm HO_165002 (fun _ hk => ⟨hk.1.1, ⟨hk.1.2, hk.2⟩⟩)), (xb BK158.out), (xb BK159.out), (xb BK160.out), (xb BK164.out), (xb BK170.out), (xs HB.out)⟩)
         rintro ⟨v172, v175, v178, v181, v184⟩ w54 ⟨hS_, h0_, h1_, h2_, h3_, h4_, h5_, h6_, h7_, h8_, h9_, h10_, h11_⟩
         have n0_ : Aside0 (Kd.R k31 31 w54 w.heap.size (fun k_ => nV k_ v175 ∧ k_ ≠ gb159 ∧ k_ ≠ gb170) v172 y171) := ⟨h0_⟩
         have n1_ : Aside0 (Kd.R k31 31 w54 w.heap.size (fun k_ => nV k_ v172 ∧ k_ ≠ gb159 ∧ k_ ≠ gb170) v175 y174) := ⟨h1_⟩
         have n2_ : Aside0 (Kd.R (Kd.int .i64) 3 w54 w.heap.size (fun k_ => nV k_ v181 ∧ nV k_ v184 ∧ nS k_ Ao41 x165002_1.length co41) v178 y177) := ⟨h2_⟩
         have n3_ : Aside0 (Kd.R (Kd.int .i64) 3 w54 w.heap.size (fun k_ => nV k_ v178 ∧ nV k_ v184 ∧ nS k_ Ao41 x165002_1.length co41) v181 y180) := ⟨h3_⟩
         have n4_ : Aside0 (Kd.R (Kd.int .i64) 3 w54 w.heap.size (fun k_ => nV k_ v178 ∧ nV k_ v181 ∧ nS k_ Ao41 x165002_1.length co41) v184 y183) := ⟨h4_⟩
         have n5_ : Aside0 (Kd.R (Kd.int .i64) 3 w54 w.heap.size (fun k_ => nV k_ v178 ∧ nV k_ v181 ∧ nV k_ v184) (.slice Ao41 x165002_1.length co41) x165002_1) := ⟨h5_⟩
         have n6_ : Aside0 (w54.heap[gb158]? = some (.cells #[.int .i64 a0_0, .int .i64 a0_1, .int .i64 a0_2, .int .i64 a0_3] 29 (0, 0))) := ⟨h6_⟩
         have n7_ : Aside0 (w54.heap[gb159]? = some (.cells #[.int .i64 x160000_1, .bool x160001_1] 31 (0, 0))) := ⟨h7_⟩
         have n8_ : Aside0 (w54.heap[gb160]? = some (.cells #[.slice none 0 0, .slice none 0 0, .slice none 0 0] 92 (0, 0))) := ⟨h8_⟩
         have n9_ : Aside0 (w54.heap[gb164]? = some (.cells #[.slice Ao39 x165000_1.length co39, .slice Ao40 x165001_1.length co40, .slice Ao41 x165002_1.length co41] 92 (0, 0))) := ⟨h9_⟩
         have n10_ : Aside0 (w54.heap[gb170]? = some (.cells #[.int .i64 t166, .bool t167] 31 (0, 0))) := ⟨h10_⟩
         have n11_ : Aside0 (Below w.heap.size w w54) := ⟨h11_⟩
         clear HO_165000
         clear HO_165001
         clear HO_165002
         clear BK158
         clear BK159
         clear BK160
         clear BK164
         clear BK170
         clear HB
         clear h0_ h1_ h2_ h3_ h4_ h5_ h6_ h7_ h8_ h9_ h10_ h11_
         have HO173 := n0_
         have HO176 := n1_
         have HO179 := n2_
         have HO182 := n3_
         have HO185 := n4_
         have HO_165002 := n5_
         have BK158 := n6_
         have BK159 := n7_
         have BK160 := n8_
         have BK164 := n9_
         have BK170 := n10_
         have HB := n11_
         clear n0_ n1_ n2_ n3_ n4_ n5_ n6_ n7_ n8_ n9_ n10_ n11_
         have hHeld : w54.cell? ⟨gb164, 0, none⟩ = some (.slice Ao39 x165000_1.length co39) ∧ w54.cell? ⟨gb164, 1, none⟩ = some (.slice Ao40 x165001_1.length co40) ∧ w54.cell? ⟨gb164, 2, none⟩ = some (.slice Ao41 x165002_1.length co41) ∧ w54.cell? ⟨gb170, 0, none⟩ = some (.int .i64 t166) ∧ w54.cell? ⟨gb170, 1, none⟩ = some (.bool t167) := hS_
         obtain ⟨Ao56, co56, eo56⟩ := Kd.R_slice HO185.out
         (first | subst eo56 | (injection eo56 with f1_ f2_ f3_; have f4_ := f1_.symm; have f5_ := f3_.symm; clear f1_ f2_ f3_; subst f4_; subst f5_))
         refine norm_ (a' := ?_) ?_ ?_
         rotate_left
         ·simp only [putAll, Act.put, List.setIfInBounds_toArray, List.set_cons_zero, List.set_cons_succ]
          rfl
         refine one_ (i := 14) (N := some 44) #[true, true, true, true, true, true, true, true, true, true, true, true, true, true, true, true, false, false, false, false, false] rfl rfl (one_of HT_.out (by kernel_rfl)) (by decide) (fun K hK => ?_)
         refine Kd.R_append_rows_step (Kd.int .i64) (w0 := w) w.heap.size (by rfl) (.tmp 41) (.tmp 43) 26 3 (.int .i64 0) 8 rfl Try.underlying26 info3 rfl (by decide) (by omega) (.slice Ao41 x165002_1.length co41) x165002_1 y183 _ _ _ (fun k_ => nV k_ v178 ∧ nV k_ v181 ∧ nS k_ Ao56 y183.length co56) (fun _ => False) rfl rfl ?aO ?aR (fun _ _ h => h) (fun _ h => h.elim) ?aF ?aB ?aS ?aL ?_
         (case aR => exact xd ((Kd.R_reads' HO185.out).2.2))
         (case aB => exact (xs HB.out))
         (case aF => exact (fun k_ hk => ⟨Kd.fresh' (Kd.R_lt (xr HO179.out)) k_ hk, Kd.fresh' (Kd.R_lt (xr HO182.out)) k_ hk, Kd.fresh' (Kd.R_lt (xr HO185.out)) k_ hk⟩))
         (case aO => exact (xr HO_165002.out))
         (case aS => exact (below_size (xs HB.out)))
         (case aL => have := LMc24.out; omega)
         intro v187 w55 ho hb hg hat
         rw [← Ny186.out] at ho
         replace BK158 := Aside0.mk (blk_grown (g := gb158) (o := .cells #[.int .i64 a0_0, .int .i64 a0_1, .int .i64 a0_2, .int .i64 a0_3] 29 (0, 0)) (xb BK158.out) hg (Kd.R_ne HO_165002.out BK158.out (by decide)))
         replace BK159 := Aside0.mk (blk_grown (g := gb159) (o := .cells #[.int .i64 x160000_1, .bool x160001_1] 31 (0, 0)) (xb BK159.out) hg (Kd.R_ne HO_165002.out BK159.out (by decide)))
         replace BK160 := Aside0.mk (blk_grown (g := gb160) (o := .cells #[.slice none 0 0, .slice none 0 0, .slice none 0 0] 92 (0, 0)) (xb BK160.out) hg (Kd.R_ne HO_165002.out BK160.out (by decide)))
         replace BK164 := Aside0.mk (blk_grown (g := gb164) (o := .cells #[.slice Ao39 x165000_1.length co39, .slice Ao40 x165001_1.length co40, .slice Ao41 x165002_1.length co41] 92 (0, 0)) (xb BK164.out) hg (Kd.R_ne HO_165002.out BK164.out (by decide)))
         replace BK170 := Aside0.mk (blk_grown (g := gb170) (o := .cells #[.int .i64 t166, .bool t167] 31 (0, 0)) (xb BK170.out) hg (Kd.R_ne HO_165002.out BK170.out (by decide)))
         replace HO173 := Aside0.mk (Kd.R_over' (xr HO173.out) (Kd.R_typed (xr HO_165002.out)) (by decide) hg)
         replace HO176 := Aside0.mk (Kd.R_over' (xr HO176.out) (Kd.R_typed (xr HO_165002.out)) (by decide) hg)
         replace HO179 := Aside0.mk (Kd.R_after (ok := (fun k_ => nV k_ v181 ∧ nS k_ Ao56 y183.length co56)) (xm HO179 (fun _ hk => ⟨⟨hk.1, hk.2.1⟩, hk.2.2⟩)) hg hat)
         replace HO182 := Aside0.mk (Kd.R_after (ok := (fun k_ => nV k_ v178 ∧ nS k_ Ao56 y183.length co56)) (xm HO182 (fun _ hk => ⟨⟨hk.1, hk.2.1⟩, hk.2.2⟩)) hg hat)
         replace HO185 := Aside0.mk (Kd.R_after (ok := (fun k_ => nV k_ v178 ∧ nV k_ v181)) (xm HO185 (fun _ hk => ⟨⟨hk.1, hk.2.1⟩, hk.2.2⟩)) hg hat)
         replace HB := Aside0.mk (hb)
         have HO188 := Aside0.mk (ho)
         clear HO_165002
         clear ho hb hg hat
         obtain ⟨Ao57, co57, eo57⟩ := Kd.R_slice HO176.out
         (first | subst eo57 | (injection eo57 with f1_ f2_ f3_; have f4_ := f1_.symm; have f5_ := f3_.symm; clear f1_ f2_ f3_; subst f4_; subst f5_))
         obtain ⟨Ao59, co59, eo59⟩ := Kd.R_slice HO182.out
         (first | subst eo59 | (injection eo59 with f1_ f2_ f3_; have f4_ := f1_.symm; have f5_ := f3_.symm; clear f1_ f2_ f3_; subst f4_; subst f5_))
         obtain ⟨Ao61, co61, eo61⟩ := Kd.R_slice HO188.out
         (first | subst eo61 | (injection eo61 with f1_ f2_ f3_; have f4_ := f1_.symm; have f5_ := f3_.symm; clear f1_ f2_ f3_; subst f4_; subst f5_))
         refine hK.out _ _ ⟨(blk_cell BK164.out 0).trans rfl, (blk_cell BK164.out 1).trans rfl, (blk_cell BK164.out 2).trans rfl, (blk_cell BK170.out 0).trans rfl, (blk_cell BK170.out 1).trans rfl⟩ (fun hHeld => ?_)
         clear hK K
         refine norm_ (a' := ?_) ?_ ?_
         rotate_left
         ·show Act.put _ (some 44) _ = _
          simp only [Act.put, List.setIfInBounds_toArray, List.set_cons_zero, List.set_cons_succ, i64_w, i32_w]
          rfl
         refine last_ (i := 16) (N := none) #[true, true, true, true, true, true, true, true, true, true, true, true, true, true, true, true, true, false, false, false, false] rfl rfl (one_of HT_.out (by kernel_rfl)) (by decide) (fun K hK => ?_)
         have hs58 : w55.cell? ⟨gb164, 0, none⟩ = some (.slice Ao39 x165000_1.length co39) := (blk_cell BK164.out 0).trans rfl
         have hfs58 := blk_frozen BK164.out 0
         have hns58_0 := NB158_164.out
         have hns58_1 := NB159_164.out
         have hns58_2 := NB160_164.out
         have hns58_4 := NB170_164.out
         have hms58_0 := NB164_158.out
         have hms58_1 := NB164_159.out
         have hms58_2 := NB164_160.out
         have hms58_4 := NB164_170.out
         refine skip_ (w1 := ?_) (by rfl) rfl ?_ ?_
         rotate_left
         ·go_simp
          rfl
         refine hK.out _ _ ?_
         clear hK K
         refine pure_ (i := 17) (N := some 46) (v := ?_) (a' := ?_) #[true, true, true, true, true, true, true, true, true, true, true, true, true, true, true, true, true, true, false, false, false] rfl rfl (any_of HT_.out (by kernel_rfl)) (fun _ _ _ h => h) (Or.inl ⟨by rfl, ?_⟩) ?_ ?_
         rotate_left
         ·intro w'
          go_simp
          with_reducible rfl
         rotate_left
         ·simp only [Act.put, List.setIfInBounds_toArray, List.set_cons_zero, List.set_cons_succ, i64_w, i32_w]
          rfl
         refine last_ (i := 18) (N := none) #[true, true, true, true, true, true, true, true, true, true, true, true, true, true, true, true, true, true, true, false, false] rfl rfl (one_of HT_.out (by kernel_rfl)) (by decide) (fun K hK => ?_)
         have hs60 : w55.cell? ⟨gb164, 1, none⟩ = some (.slice Ao40 x165001_1.length co40) := (blk_cell BK164.out 1).trans rfl
         have hfs60 := blk_frozen BK164.out 1
         have hns60_0 := NB158_164.out
         have hns60_1 := NB159_164.out
         have hns60_2 := NB160_164.out
         have hns60_4 := NB170_164.out
         have hms60_0 := NB164_158.out
         have hms60_1 := NB164_159.out
         have hms60_2 := NB164_160.out
         have hms60_4 := NB164_170.out
         refine skip_ (w1 := ?_) (by rfl) rfl ?_ ?_
         rotate_left
         ·go_simp
          rfl
         refine hK.out _ _ ?_
         clear hK K
         refine pure_ (i := 19) (N := some 47) (v := ?_) (a' := ?_) #[true, true, true, true, true, true, true, true, true, true, true, true, true, true, true, true, true, true, true, true, false] rfl rfl (any_of HT_.out (by kernel_rfl)) (fun _ _ _ h => h) (Or.inl ⟨by rfl, ?_⟩) ?_ ?_
         rotate_left
         ·intro w'
          go_simp
          with_reducible rfl
         rotate_left
         ·simp only [Act.put, List.setIfInBounds_toArray, List.set_cons_zero, List.set_cons_succ, i64_w, i32_w]
          rfl
         refine last_ (i := 20) (N := none) #[true, true, true, true, true, true, true, true, true, true, true, true, true, true, true, true, true, true, true, true, true] rfl rfl (one_of HT_.out (by kernel_rfl)) (by decide) (fun K hK => ?_)
         have hs62 : w55.cell? ⟨gb164, 2, none⟩ = some (.slice Ao41 x165002_1.length co41) := (blk_cell BK164.out 2).trans rfl
         have hfs62 := blk_frozen BK164.out 2
         have hns62_0 := NB158_164.out
         have hns62_1 := NB159_164.out
         have hns62_2 := NB160_164.out
         have hns62_4 := NB170_164.out
         have hms62_0 := NB164_158.out
         have hms62_1 := NB164_159.out
         have hms62_2 := NB164_160.out
         have hms62_4 := NB164_170.out
         refine skip_ (w1 := ?_) (by rfl) rfl ?_ ?_
         rotate_left
         ·go_simp
          rfl
         refine hK.out _ _ ?_
         clear hK K
         refine done_ (done_of HT_.out (by kernel_rfl)) ?_
         have hcz63_0 : w55.cell? ⟨gb170, 0, none⟩ = some (.int .i64 t166) := (blk_cell BK170.out 0).trans rfl
         have hcz63_1 : w55.cell? ⟨gb170, 1, none⟩ = some (.bool t167) := (blk_cell BK170.out 1).trans rfl
         have hfz63_0 := blk_frozen BK170.out 0
         have hfz63_1 := blk_frozen BK170.out 1
         have hcz64_0 : w55.cell? ⟨gb159, 0, none⟩ = some (.int .i64 x160000_1) := (blk_cell BK159.out 0).trans rfl
         have hcz64_1 : w55.cell? ⟨gb159, 1, none⟩ = some (.bool x160001_1) := (blk_cell BK159.out 1).trans rfl
         have hfz64_0 := blk_frozen BK159.out 0
         have hfz64_1 := blk_frozen BK159.out 1
         try go_wp2
         go_roundg k1
         case measure => have := HK1.out; omega
         case rel => exact ⟨(wrap64 (x18_1 + 1)), (t166), (t167), (y174), (y180), (y186), (.slice Ao57 y174.length co57), (.slice Ao59 y180.length co59), (.slice Ao61 y186.length co61), (by first | rfl | (simp; done) | (simp [*]; done)), H', ⟨by have := HK1.out; omega⟩, ⟨by (with_reducible repeat (first | apply Kd.R_alloc | apply Kd.R_drewN | apply Kd.R_drew)); exact Kd.R_mono (Kd.R_far (p := ⟨gb159, 1, none⟩) (Kd.R_far (p := ⟨gb159, 0, none⟩) (Kd.R_far (p := ⟨gb164, 2, none⟩) (Kd.R_far (p := ⟨gb164, 1, none⟩) (Kd.R_far (p := ⟨gb164, 0, none⟩) (Kd.R_mono (Kd.R_types HO176.out BK164.out (by decide)) (fun k_ hk => (⟨hk, hk.1.2.1⟩ : _ ∧ k_ ≠ gb159))) (fun _ hk => hk.1.2) (.slice Ao57 y174.length co57)) (fun _ hk => hk.1.2) (.slice Ao59 y180.length co59)) (fun _ hk => hk.1.2) (.slice Ao61 y186.length co61)) (fun _ hk => hk.2) (.int .i64 t166)) (fun _ hk => hk.2) (.bool t167)) (fun _ hk => hk.1.1.2.1)⟩, ⟨by (with_reducible repeat (first | apply Kd.R_alloc | apply Kd.R_drewN | apply Kd.R_drew)); exact Kd.R_mono (Kd.R_far (p := ⟨gb159, 1, none⟩) (Kd.R_far (p := ⟨gb159, 0, none⟩) (Kd.R_far (p := ⟨gb164, 2, none⟩) (Kd.R_far (p := ⟨gb164, 1, none⟩) (Kd.R_far (p := ⟨gb164, 0, none⟩) (Kd.R_types (Kd.R_types HO182.out BK164.out (by decide)) BK159.out (by decide)) (fun _ hk => hk.1.2) (.slice Ao57 y174.length co57)) (fun _ hk => hk.1.2) (.slice Ao59 y180.length co59)) (fun _ hk => hk.1.2) (.slice Ao61 y186.length co61)) (fun _ hk => hk.2) (.int .i64 t166)) (fun _ hk => hk.2) (.bool t167)) (fun _ hk => hk.1.1.2)⟩, ⟨by (with_reducible repeat (first | apply Kd.R_alloc | apply Kd.R_drewN | apply Kd.R_drew)); exact Kd.R_mono (Kd.R_far (p := ⟨gb159, 1, none⟩) (Kd.R_far (p := ⟨gb159, 0, none⟩) (Kd.R_far (p := ⟨gb164, 2, none⟩) (Kd.R_far (p := ⟨gb164, 1, none⟩) (Kd.R_far (p := ⟨gb164, 0, none⟩) (Kd.R_types (Kd.R_types HO188.out BK164.out (by decide)) BK159.out (by decide)) (fun _ hk => hk.1.2) (.slice Ao57 y174.length co57)) (fun _ hk => hk.1.2) (.slice Ao59 y180.length co59)) (fun _ hk => hk.1.2) (.slice Ao61 y186.length co61)) (fun _ hk => hk.2) (.int .i64 t166)) (fun _ hk => hk.2) (.bool t167)) (fun _ hk => hk.1.1.2.1)⟩, ⟨by (with_reducible repeat (first | refine blk_drewN ?_ _ | refine blk_drew ?_ | refine blk_alloc ?_ _)); refine blk_far ?_ NB158_159.out _; (with_reducible repeat (first | refine blk_drewN ?_ _ | refine blk_drew ?_ | refine blk_alloc ?_ _)); refine blk_far ?_ NB158_159.out _; (with_reducible repeat (first | refine blk_drewN ?_ _ | refine blk_drew ?_ | refine blk_alloc ?_ _)); refine blk_far ?_ NB158_164.out _; (with_reducible repeat (first | refine blk_drewN ?_ _ | refine blk_drew ?_ | refine blk_alloc ?_ _)); refine blk_far ?_ NB158_164.out _; (with_reducible repeat (first | refine blk_drewN ?_ _ | refine blk_drew ?_ | refine blk_alloc ?_ _)); refine blk_far ?_ NB158_164.out _; (with_reducible repeat (first | refine blk_drewN ?_ _ | refine blk_drew ?_ | refine blk_alloc ?_ _)); exact BK158.out⟩, ⟨by (with_reducible repeat (first | refine blk_drewN ?_ _ | refine blk_drew ?_ | refine blk_alloc ?_ _)); refine blk_put (cs := #[.int .i64 t166, .bool x160001_1]) ?_ 1 _ rfl; (with_reducible repeat (first | refine blk_drewN ?_ _ | refine blk_drew ?_ | refine blk_alloc ?_ _)); refine blk_put (cs := #[.int .i64 x160000_1, .bool x160001_1]) ?_ 0 _ rfl; (with_reducible repeat (first | refine blk_drewN ?_ _ | refine blk_drew ?_ | refine blk_alloc ?_ _)); refine blk_far ?_ NB159_164.out _; (with_reducible repeat (first | refine blk_drewN ?_ _ | refine blk_drew ?_ | refine blk_alloc ?_ _)); refine blk_far ?_ NB159_164.out _; (with_reducible repeat (first | refine blk_drewN ?_ _ | refine blk_drew ?_ | refine blk_alloc ?_ _)); refine blk_far ?_ NB159_164.out _; (with_reducible repeat (first | refine blk_drewN ?_ _ | refine blk_drew ?_ | refine blk_alloc ?_ _)); exact BK159.out⟩, ⟨by (with_reducible repeat (first | refine blk_drewN ?_ _ | refine blk_drew ?_ | refine blk_alloc ?_ _)); refine blk_far ?_ NB160_159.out _; (with_reducible repeat (first | refine blk_drewN ?_ _ | refine blk_drew ?_ | refine blk_alloc ?_ _)); refine blk_far ?_ NB160_159.out _; (with_reducible repeat (first | refine blk_drewN ?_ _ | refine blk_drew ?_ | refine blk_alloc ?_ _)); refine blk_far ?_ NB160_164.out _; (with_reducible repeat (first | refine blk_drewN ?_ _ | refine blk_drew ?_ | refine blk_alloc ?_ _)); refine blk_far ?_ NB160_164.out _; (with_reducible repeat (first | refine blk_drewN ?_ _ | refine blk_drew ?_ | refine blk_alloc ?_ _)); refine blk_far ?_ NB160_164.out _; (with_reducible repeat (first | refine blk_drewN ?_ _ | refine blk_drew ?_ | refine blk_alloc ?_ _)); exact BK160.out⟩, ⟨by (with_reducible repeat (first | refine blk_drewN ?_ _ | refine blk_drew ?_ | refine blk_alloc ?_ _)); refine blk_far ?_ NB164_159.out _; (with_reducible repeat (first | refine blk_drewN ?_ _ | refine blk_drew ?_ | refine blk_alloc ?_ _)); refine blk_far ?_ NB164_159.out _; (with_reducible repeat (first | refine blk_drewN ?_ _ | refine blk_drew ?_ | refine blk_alloc ?_ _)); refine blk_put (cs := #[.slice Ao57 y174.length co57, .slice Ao59 y180.length co59, .slice Ao41 x165002_1.length co41]) ?_ 2 _ rfl; (with_reducible repeat (first | refine blk_drewN ?_ _ | refine blk_drew ?_ | refine blk_alloc ?_ _)); refine blk_put (cs := #[.slice Ao57 y174.length co57, .slice Ao40 x165001_1.length co40, .slice Ao41 x165002_1.length co41]) ?_ 1 _ rfl; (with_reducible repeat (first | refine blk_drewN ?_ _ | refine blk_drew ?_ | refine blk_alloc ?_ _)); refine blk_put (cs := #[.slice Ao39 x165000_1.length co39, .slice Ao40 x165001_1.length co40, .slice Ao41 x165002_1.length co41]) ?_ 0 _ rfl; (with_reducible repeat (first | refine blk_drewN ?_ _ | refine blk_drew ?_ | refine blk_alloc ?_ _)); exact BK164.out⟩, ⟨xs HB.out⟩⟩
        ·rw [if_neg c24] at H
         exact absurd H (by simp)
       ·rw [if_neg c23] at H
        exact absurd H (by simp)
      ·rw [if_neg c22] at H
       exact absurd H (by simp)
     ·rw [if_neg c20] at H
      exact absurd H (by simp)
    ·rw [if_neg c19] at H
     exact absurd H (by simp)
   ·rw [if_neg c18] at H
    have c18b0 : decide (x18_1 < (l2.length : Int)) = false := decide_eq_false c18
    clear c18
    simp only [Option.some.injEq, Prod.mk.injEq] at H
    obtain ⟨rfl, rfl, rfl⟩ := H
    have hnb65 := NB164_158.out
    have hnc65 := NB158_164.out
    have hnb66 := NB164_159.out
    have hnc66 := NB159_164.out
    have hnb67 := NB164_160.out
    have hnc67 := NB160_164.out
    have hcz68_0 : wr.cell? ⟨gb164, 0, none⟩ = some (u165000) := (blk_cell BK164.out 0).trans rfl
    have hcz68_1 : wr.cell? ⟨gb164, 1, none⟩ = some (u165001) := (blk_cell BK164.out 1).trans rfl
    have hcz68_2 : wr.cell? ⟨gb164, 2, none⟩ = some (u165002) := (blk_cell BK164.out 2).trans rfl
    have hfz68_0 := blk_frozen BK164.out 0
    have hfz68_1 := blk_frozen BK164.out 1
    have hfz68_2 := blk_frozen BK164.out 2
    obtain ⟨Ao69, co69, eo69⟩ := Kd.R_slice HO_165000.out
    subst eo69
    have hnb70 := NB160_158.out
    have hnc70 := NB158_160.out
    have hnb71 := NB160_159.out
    have hnc71 := NB159_160.out
    have hcz72_0 : wr.cell? ⟨gb160, 0, none⟩ = some (.slice none 0 0) := (blk_cell BK160.out 0).trans rfl
    have hcz72_1 : wr.cell? ⟨gb160, 1, none⟩ = some (.slice none 0 0) := (blk_cell BK160.out 1).trans rfl
    have hcz72_2 : wr.cell? ⟨gb160, 2, none⟩ = some (.slice none 0 0) := (blk_cell BK160.out 2).trans rfl
    have hfz72_0 := blk_frozen BK160.out 0
    have hfz72_1 := blk_frozen BK160.out 1
    have hfz72_2 := blk_frozen BK160.out 2
    obtain ⟨Ao73, co73, eo73⟩ := Kd.R_slice HO_165001.out
    subst eo73
    obtain ⟨Ao74, co74, eo74⟩ := Kd.R_slice HO_165002.out
    subst eo74
    go_wp2
    refine bodyPost_ret (results_cell_row rfl _ _ gb160 92 #[.slice Ao69 x165000_1.length co69, .slice Ao73 x165001_1.length co73, .slice Ao74 x165002_1.length co74] (0, 0) _ rfl (by (with_reducible repeat (first | refine blk_drewN ?_ _ | refine blk_drew ?_ | refine blk_alloc ?_ _)); refine blk_put (cs := #[.slice Ao69 x165000_1.length co69, .slice Ao73 x165001_1.length co73, .slice none 0 0]) ?_ 2 _ rfl; (with_reducible repeat (first | refine blk_drewN ?_ _ | refine blk_drew ?_ | refine blk_alloc ?_ _)); refine blk_put (cs := #[.slice Ao69 x165000_1.length co69, .slice none 0 0, .slice none 0 0]) ?_ 1 _ rfl; (with_reducible repeat (first | refine blk_drewN ?_ _ | refine blk_drew ?_ | refine blk_alloc ?_ _)); refine blk_put (cs := #[.slice none 0 0, .slice none 0 0, .slice none 0 0]) ?_ 0 _ rfl; (with_reducible repeat (first | refine blk_drewN ?_ _ | refine blk_drew ?_ | refine blk_alloc ?_ _)); exact BK160.out) Try.underlying92 rfl (by kernel_rfl)) rfl ?_
    exact ⟨_, _, _, by first | rfl | (simp [errW_none, errW_some] <;> rfl) | (simp [*, errW_none, errW_some] <;> rfl), by (with_reducible repeat (first | apply Kd.R_alloc | apply Kd.R_drewN | apply Kd.R_drew)); exact Kd.R_mono (Kd.R_far (p := ⟨gb160, 2, none⟩) (Kd.R_far (p := ⟨gb160, 1, none⟩) (Kd.R_far (p := ⟨gb160, 0, none⟩) (Kd.R_types HO_165000.out BK160.out (by decide)) (fun _ hk => hk.2) (.slice Ao69 x165000_1.length co69)) (fun _ hk => hk.2) (.slice Ao73 x165001_1.length co73)) (fun _ hk => hk.2) (.slice Ao74 x165002_1.length co74)) (fun _ hk => trivial), by (with_reducible repeat (first | apply Kd.R_alloc | apply Kd.R_drewN | apply Kd.R_drew)); exact Kd.R_mono (Kd.R_far (p := ⟨gb160, 2, none⟩) (Kd.R_far (p := ⟨gb160, 1, none⟩) (Kd.R_far (p := ⟨gb160, 0, none⟩) (Kd.R_types HO_165001.out BK160.out (by decide)) (fun _ hk => hk.2) (.slice Ao69 x165000_1.length co69)) (fun _ hk => hk.2) (.slice Ao73 x165001_1.length co73)) (fun _ hk => hk.2) (.slice Ao74 x165002_1.length co74)) (fun _ hk => hk.1), by (with_reducible repeat (first | apply Kd.R_alloc | apply Kd.R_drewN | apply Kd.R_drew)); exact Kd.R_mono (Kd.R_far (p := ⟨gb160, 2, none⟩) (Kd.R_far (p := ⟨gb160, 1, none⟩) (Kd.R_far (p := ⟨gb160, 0, none⟩) (Kd.R_types HO_165002.out BK160.out (by decide)) (fun _ hk => hk.2) (.slice Ao69 x165000_1.length co69)) (fun _ hk => hk.2) (.slice Ao73 x165001_1.length co73)) (fun _ hk => hk.2) (.slice Ao74 x165002_1.length co74)) (fun _ hk => hk.1), by repeat (first | (with_reducible first | exact HB.out | apply below_alloc | apply pw_below_drewN | apply below_drew1 | refine below_set ?_ GE158.out | refine below_set ?_ GE159.out | refine below_set ?_ GE160.out | refine below_set ?_ GE164.out) | exact HB.out)⟩

end Go.Proofs.Ytminippcikenfaa.PFnExactChainOuts

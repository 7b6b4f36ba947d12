/- Lean functions of the Go functions that the law FnExactMakeMove reaches, and the proofs that the calls come to what they say (made by program). -/
import Derived.Test.YtobkbpoamicjgaaAb
import Derived.Test.YtobkbpoamicjgaaPFnExactMakeMovex0
import Derived.Test.YtobkbpoamicjgaaPFnExactMakeMovex1
import Derived.Test.YtobkbpoamicjgaaPFnExactMakeMovex4
import Derived.Test.YtobkbpoamicjgaaPFnExactMakeMovex7
namespace Go.Proofs.Ytobkbpoamicjgaa.PFnExactMakeMove
open Go.RowKit Go.Proofs.YtobkbpoamicjgaaW.PrintWords Go.Proofs.YtobkbpoamicjgaaW.PrintLast Go.Proofs.YtobkbpoamicjgaaW.PrintMore Go.Proofs.Ytobkbpoamicjgaa.Ab
attribute [local go_sem] max2_int min2_int max_two min_two max_three min_three max_four min_four   -- for this text's walks alone
set_option linter.unusedVariables false
set_option linter.unusedSimpArgs false

/-! ### laws_FnExactMakeMove: function 6 -/
mutual
def laws_FnExactMakeMove.j0 : Nat → Bool → Bool → Bool → List Int → List Int → Int → Int → List Int → List Int → List Int → List Int → List Int → List Int → Option (Bool)
  | 0, _, _, _, _, _, _, _, _, _, _, _, _, _ => none
  | k + 1, x7, x10, x46, x253000, x253001, x254000, x254001, x271000, x271001, x278000, x278001, x288000, x288001 => if x46 = true then (some false) else ((laws_toVessels.f k x253000 x253001).bind fun bt289 => ((laws_eqVessels.f k x278000 x278001 bt289.1 bt289.2).bind fun t295 => (if t295 = true then ((laws_markVessels.f k x278000 x278001 1).bind fun bt296 => (if bt296.1 < 0 then (laws_FnExactMakeMove.j1 k x7 true x253000 x253001 x254000 x254001 x271000 x271001 x288000 x288001) else ((laws_eqVessels.f k x288000 x288001 x271000 x271001).bind fun t299 => (if t299 = true then (laws_FnExactMakeMove.j1 k x7 (x10 != x7) x253000 x253001 x254000 x254001 x271000 x271001 x288000 x288001) else (laws_FnExactMakeMove.j1 k x7 true x253000 x253001 x254000 x254001 x271000 x271001 x288000 x288001))))) else (some false))))
def laws_FnExactMakeMove.j1 : Nat → Bool → Bool → List Int → List Int → Int → Int → List Int → List Int → List Int → List Int → Option (Bool)
  | 0, _, _, _, _, _, _, _, _, _, _ => none
  | k + 1, x7, x67, x253000, x253001, x254000, x254001, x271000, x271001, x288000, x288001 => if x67 = true then (some false) else ((laws_markVessels.f k x288000 x288001 1).bind fun bt300 => ((laws_heldVessels.f k bt300.2.1 bt300.2.2 1).bind fun t303 => (if t303 < 0 then (some false) else (if t303 = bt300.1 then ((laws_toVessels.f k x253000 x253001).bind fun bt304 => ((laws_toMove.f x254000 x254001).bind fun bt310 => ((impl_MakeMove.f k bt304.1 bt304.2 bt310.1 bt310.2).bind fun bt312 => ((laws_eqVessels.f k bt312.1 bt312.2.1 x271000 x271001).bind fun t320 => (if t320 = true then (laws_FnExactMakeMove.j2 k bt300.1 (bt312.2.2 != x7) bt300.2.1 bt300.2.2) else (laws_FnExactMakeMove.j2 k bt300.1 true bt300.2.1 bt300.2.2)))))) else (some false)))))
def laws_FnExactMakeMove.j2 : Nat → Int → Bool → List Int → List Int → Option (Bool)
  | 0, _, _, _, _ => none
  | k + 1, x12, x95, x288000, x288001 => if x95 = true then (some false) else ((laws_heldVessels.f k x288000 x288001 1).bind fun t321 => (if t321 < 0 then (some false) else (if t321 = x12 then (some true) else (some false))))
end
def laws_FnExactMakeMove.f (k : Nat) (l0_0 : List Int) (l0_1 : List Int) (a1_0 : Int) (a1_1 : Int) : Option (Bool) := (laws_szVessels.f l0_0 l0_1 1048576).bind fun t254 => (if t254 < 0 then (some true) else ((laws_toVessels.f k l0_0 l0_1).bind fun bt255 => ((laws_toMove.f a1_0 a1_1).bind fun bt261 => ((spec_MakeMove.f k bt255.1 bt255.2 bt261.1 bt261.2).bind fun bt263 => ((laws_toVessels.f k l0_0 l0_1).bind fun bt271 => ((laws_toMove.f a1_0 a1_1).bind fun bt278 => ((impl_MakeMove.f k bt271.1 bt271.2 bt278.1 bt278.2).bind fun bt280 => ((laws_eqVessels.f k bt280.1 bt280.2.1 bt263.1 bt263.2.1).bind fun t288 => (if t288 = true then (laws_FnExactMakeMove.j0 k bt263.2.2 bt280.2.2 (bt280.2.2 != bt263.2.2) l0_0 l0_1 a1_0 a1_1 bt263.1 bt263.2.1 bt271.1 bt271.2 bt280.1 bt280.2.1) else (laws_FnExactMakeMove.j0 k bt263.2.2 bt280.2.2 true l0_0 l0_1 a1_0 a1_1 bt263.1 bt263.2.1 bt271.1 bt271.2 bt280.1 bt280.2.1))))))))))
theorem laws_FnExactMakeMove.mono_l : ∀ k, (∀ y0 y1 y2 y3 y4 y5 y6 y7 y8 y9 y10 y11 y12, LeO (laws_FnExactMakeMove.j0 k y0 y1 y2 y3 y4 y5 y6 y7 y8 y9 y10 y11 y12) (laws_FnExactMakeMove.j0 (k + 1) y0 y1 y2 y3 y4 y5 y6 y7 y8 y9 y10 y11 y12)) ∧ (∀ y0 y1 y2 y3 y4 y5 y6 y7 y8 y9, LeO (laws_FnExactMakeMove.j1 k y0 y1 y2 y3 y4 y5 y6 y7 y8 y9) (laws_FnExactMakeMove.j1 (k + 1) y0 y1 y2 y3 y4 y5 y6 y7 y8 y9)) ∧ (∀ y0 y1 y2 y3, LeO (laws_FnExactMakeMove.j2 k y0 y1 y2 y3) (laws_FnExactMakeMove.j2 (k + 1) y0 y1 y2 y3))
 | 0 => ⟨fun _ _ _ _ _ _ _ _ _ _ _ _ _ r h => by simp [laws_FnExactMakeMove.j0] at h, fun _ _ _ _ _ _ _ _ _ _ r h => by simp [laws_FnExactMakeMove.j1] at h, fun _ _ _ _ r h => by simp [laws_FnExactMakeMove.j2] at h⟩
 | k + 1 => by
  obtain ⟨ih0, ih1, ih2⟩ := laws_FnExactMakeMove.mono_l k
  refine ⟨?_, ?_, ?_⟩
  ·intro y0 y1 y2 y3 y4 y5 y6 y7 y8 y9 y10 y11 y12
   unfold laws_FnExactMakeMove.j0
   repeat' first
   | (with_reducible exact ih0 _ _ _ _ _ _ _ _ _ _ _ _ _)
   | (with_reducible exact ih1 _ _ _ _ _ _ _ _ _ _)
   | (with_reducible exact ih2 _ _ _ _)
   | (with_reducible exact impl_MakeMove.mono _ _ _ _ _)
   | (with_reducible exact laws_eqVessels.mono _ _ _ _ _)
   | (with_reducible exact laws_heldVessels.mono _ _ _ _)
   | (with_reducible exact laws_markVessels.mono _ _ _ _)
   | (with_reducible exact laws_toVessels.mono _ _ _)
   | (with_reducible exact spec_MakeMove.mono _ _ _ _ _)
   | (with_reducible exact LeO.refl _)
   | (with_reducible exact LeO.none _)
   | (with_reducible refine LeO.ite ?_ ?_)
   | (with_reducible refine LeO.bind ?_ (fun _ => ?_))
   | exact ih0 _ _ _ _ _ _ _ _ _ _ _ _ _
   | exact ih1 _ _ _ _ _ _ _ _ _ _
   | exact ih2 _ _ _ _
   | exact impl_MakeMove.mono _ _ _ _ _
   | exact laws_eqVessels.mono _ _ _ _ _
   | exact laws_heldVessels.mono _ _ _ _
   | exact laws_markVessels.mono _ _ _ _
   | exact laws_toVessels.mono _ _ _
   | exact spec_MakeMove.mono _ _ _ _ _
   | exact LeO.none _
   | refine LeO.ite ?_ ?_
   | refine LeO.bind ?_ (fun _ => ?_)
  ·intro y0 y1 y2 y3 y4 y5 y6 y7 y8 y9
   unfold laws_FnExactMakeMove.j1
   repeat' first
   | (with_reducible exact ih0 _ _ _ _ _ _ _ _ _ _ _ _ _)
   | (with_reducible exact ih1 _ _ _ _ _ _ _ _ _ _)
   | (with_reducible exact ih2 _ _ _ _)
   | (with_reducible exact impl_MakeMove.mono _ _ _ _ _)
   | (with_reducible exact laws_eqVessels.mono _ _ _ _ _)
   | (with_reducible exact laws_heldVessels.mono _ _ _ _)
   | (with_reducible exact laws_markVessels.mono _ _ _ _)
   | (with_reducible exact laws_toVessels.mono _ _ _)
   | (with_reducible exact spec_MakeMove.mono _ _ _ _ _)
   | (with_reducible exact LeO.refl _)
   | (with_reducible exact LeO.none _)
   | (with_reducible refine LeO.ite ?_ ?_)
   | (with_reducible refine LeO.bind ?_ (fun _ => ?_))
   | exact ih0 _ _ _ _ _ _ _ _ _ _ _ _ _
   | exact ih1 _ _ _ _ _ _ _ _ _ _
   | exact ih2 _ _ _ _
   | exact impl_MakeMove.mono _ _ _ _ _
   | exact laws_eqVessels.mono _ _ _ _ _
   | exact laws_heldVessels.mono _ _ _ _
   | exact laws_markVessels.mono _ _ _ _
   | exact laws_toVessels.mono _ _ _
   | exact spec_MakeMove.mono _ _ _ _ _
   | exact LeO.none _
   | refine LeO.ite ?_ ?_
   | refine LeO.bind ?_ (fun _ => ?_)
  ·intro y0 y1 y2 y3
   unfold laws_FnExactMakeMove.j2
   repeat' first
   | (with_reducible exact ih0 _ _ _ _ _ _ _ _ _ _ _ _ _)
   | (with_reducible exact ih1 _ _ _ _ _ _ _ _ _ _)
   | (with_reducible exact ih2 _ _ _ _)
   | (with_reducible exact impl_MakeMove.mono _ _ _ _ _)
   | (with_reducible exact laws_eqVessels.mono _ _ _ _ _)
   | (with_reducible exact laws_heldVessels.mono _ _ _ _)
   | (with_reducible exact laws_markVessels.mono _ _ _ _)
   | (with_reducible exact laws_toVessels.mono _ _ _)
   | (with_reducible exact spec_MakeMove.mono _ _ _ _ _)
   | (with_reducible exact LeO.refl _)
   | (with_reducible exact LeO.none _)
   | (with_reducible refine LeO.ite ?_ ?_)
   | (with_reducible refine LeO.bind ?_ (fun _ => ?_))
   | exact ih0 _ _ _ _ _ _ _ _ _ _ _ _ _
   | exact ih1 _ _ _ _ _ _ _ _ _ _
   | exact ih2 _ _ _ _
   | exact impl_MakeMove.mono _ _ _ _ _
   | exact laws_eqVessels.mono _ _ _ _ _
   | exact laws_heldVessels.mono _ _ _ _
   | exact laws_markVessels.mono _ _ _ _
   | exact laws_toVessels.mono _ _ _
   | exact spec_MakeMove.mono _ _ _ _ _
   | exact LeO.none _
   | refine LeO.ite ?_ ?_
   | refine LeO.bind ?_ (fun _ => ?_)
theorem laws_FnExactMakeMove.mono : ∀ a0 a1 a2 a3 k, LeO (laws_FnExactMakeMove.f k a0 a1 a2 a3) (laws_FnExactMakeMove.f (k + 1) a0 a1 a2 a3) := by
 intro a0 a1 a2 a3 k
 obtain ⟨ih0, ih1, ih2⟩ := laws_FnExactMakeMove.mono_l k
 unfold laws_FnExactMakeMove.f
 repeat' first
   | (with_reducible exact ih0 _ _ _ _ _ _ _ _ _ _ _ _ _)
   | (with_reducible exact ih1 _ _ _ _ _ _ _ _ _ _)
   | (with_reducible exact ih2 _ _ _ _)
   | (with_reducible exact impl_MakeMove.mono _ _ _ _ _)
   | (with_reducible exact laws_eqVessels.mono _ _ _ _ _)
   | (with_reducible exact laws_heldVessels.mono _ _ _ _)
   | (with_reducible exact laws_markVessels.mono _ _ _ _)
   | (with_reducible exact laws_toVessels.mono _ _ _)
   | (with_reducible exact spec_MakeMove.mono _ _ _ _ _)
   | (with_reducible exact LeO.refl _)
   | (with_reducible exact LeO.none _)
   | (with_reducible refine LeO.ite ?_ ?_)
   | (with_reducible refine LeO.bind ?_ (fun _ => ?_))
   | exact ih0 _ _ _ _ _ _ _ _ _ _ _ _ _
   | exact ih1 _ _ _ _ _ _ _ _ _ _
   | exact ih2 _ _ _ _
   | exact impl_MakeMove.mono _ _ _ _ _
   | exact laws_eqVessels.mono _ _ _ _ _
   | exact laws_heldVessels.mono _ _ _ _
   | exact laws_markVessels.mono _ _ _ _
   | exact laws_toVessels.mono _ _ _
   | exact spec_MakeMove.mono _ _ _ _ _
   | exact LeO.none _
   | refine LeO.ite ?_ ?_
   | refine LeO.bind ?_ (fun _ => ?_)
def laws_FnExactMakeMove.T5 : Bool × List (List Nat × List Nat) := (true, [([], []), ([0], [0]), ([], []), ([2, 1], [2]), ([1, 3, 3], [1, 3]), ([4], [4]), ([5], [5]), ([5], [5]), ([], []), ([8, 6, 4, 0, 1, 2, 3, 4, 5, 6, 8], [6, 8]), ([7, 9, 0, 1, 2, 3, 4, 5, 6, 7, 8, 9], [7])])
def laws_FnExactMakeMove.B5 : List Nat := [0, 1, 0, 7, 15, 31, 63, 63, 0, 383, 1023]
theorem laws_FnExactMakeMove.tab5 : rtab .any (opsOf Try.f6 5) = laws_FnExactMakeMove.T5 := by kernel_rfl
theorem laws_FnExactMakeMove.bits5 : waitsOk laws_FnExactMakeMove.T5.2 laws_FnExactMakeMove.B5 = true := by kernel_rfl
def laws_FnExactMakeMove.T7 : Bool × List (List Nat × List Nat) := (true, [([], []), ([], []), ([1], [1]), ([0, 2, 2], [0, 2]), ([3], [3]), ([4], [4]), ([4], [4]), ([], []), ([7, 5, 3, 0, 1, 2, 3, 4, 5, 7], [5, 7]), ([6, 8, 0, 1, 2, 3, 4, 5, 6, 7, 8], [6])])
def laws_FnExactMakeMove.B7 : List Nat := [0, 0, 2, 7, 15, 31, 31, 0, 191, 511]
theorem laws_FnExactMakeMove.tab7 : rtab .any (opsOf Try.f6 7) = laws_FnExactMakeMove.T7 := by kernel_rfl
theorem laws_FnExactMakeMove.bits7 : waitsOk laws_FnExactMakeMove.T7.2 laws_FnExactMakeMove.B7 = true := by kernel_rfl
def laws_FnExactMakeMove.T24 : Bool × List (List Nat × List Nat) := (true, [([], []), ([0], [0]), ([], []), ([2, 1], [2]), ([1, 3, 3], [1, 3]), ([4], [4]), ([5], [5]), ([5], [5]), ([], []), ([8, 6, 4, 0, 1, 2, 3, 4, 5, 6, 8], [6, 8]), ([7, 9, 0, 1, 2, 3, 4, 5, 6, 7, 8, 9], [7])])
def laws_FnExactMakeMove.B24 : List Nat := [0, 1, 0, 7, 15, 31, 63, 63, 0, 383, 1023]
theorem laws_FnExactMakeMove.tab24 : rtab .any (opsOf Try.f6 24) = laws_FnExactMakeMove.T24 := by kernel_rfl
theorem laws_FnExactMakeMove.bits24 : waitsOk laws_FnExactMakeMove.T24.2 laws_FnExactMakeMove.B24 = true := by kernel_rfl
set_option maxHeartbeats 8000000 in
set_option maxRecDepth 100000 in
theorem laws_FnExactMakeMove.calls (k : Nat) (A0_0 : Option Addr) (c0_0 : Nat) (l0_0 : List Int) (A0_1 : Option Addr) (c0_1 : Nat) (l0_1 : List Int) (a1_0 : Int) (a1_1 : Int) (w : World) (hr0_0 : Kd.C (Kd.int .i64) w A0_0 l0_0.length l0_0) (hc0_0 : l0_0.length ≤ c0_0) (hr0_1 : Kd.C (Kd.int .i64) w A0_1 l0_1.length l0_1) (hc0_1 : l0_1.length ≤ c0_1) (h : laws_FnExactMakeMove.f k l0_0 l0_1 a1_0 a1_1 = some true) :
  Calls Try.prog 6 #[.agg #[.slice A0_0 l0_0.length c0_0, .slice A0_1 l0_1.length c0_1], .agg #[.int .i64 a1_0, .int .i64 a1_1]] w fun e w' => e = .returned (.bool true) ∧ Below w.heap.size w w' := by
 have hu24 := Try.underlying24
 have hu39 := Try.underlying39
 have hu26 := Try.underlying26
 have HR0_0 := Aside0.mk hr0_0
 have HC0_0 := Aside0.mk hc0_0
 clear hr0_0 hc0_0
 have HR0_1 := Aside0.mk hr0_1
 have HC0_1 := Aside0.mk hc0_1
 clear hr0_1 hc0_1
 have HB := Aside0.mk (Below.refl w.heap.size w)
 have H : ((laws_szVessels.f l0_0 l0_1 1048576).bind fun t254 => (if t254 < 0 then (some true) else ((laws_toVessels.f k l0_0 l0_1).bind fun bt255 => ((laws_toMove.f a1_0 a1_1).bind fun bt261 => ((spec_MakeMove.f k bt255.1 bt255.2 bt261.1 bt261.2).bind fun bt263 => ((laws_toVessels.f k l0_0 l0_1).bind fun bt271 => ((laws_toMove.f a1_0 a1_1).bind fun bt278 => ((impl_MakeMove.f k bt271.1 bt271.2 bt278.1 bt278.2).bind fun bt280 => ((laws_eqVessels.f k bt280.1 bt280.2.1 bt263.1 bt263.2.1).bind fun t288 => (if t288 = true then (laws_FnExactMakeMove.j0 k bt263.2.2 bt280.2.2 (bt280.2.2 != bt263.2.2) l0_0 l0_1 a1_0 a1_1 bt263.1 bt263.2.1 bt271.1 bt271.2 bt280.1 bt280.2.1) else (laws_FnExactMakeMove.j0 k bt263.2.2 bt280.2.2 true l0_0 l0_1 a1_0 a1_1 bt263.1 bt263.2.1 bt271.1 bt271.2 bt280.1 bt280.2.1))))))))))) = some true := h
 clear h
 replace H := Option.bind_eq_some_iff.mp H
 obtain ⟨t254, A30, H⟩ := H
 replace H : (if t254 < 0 then (some true) else ((laws_toVessels.f k l0_0 l0_1).bind fun bt255 => ((laws_toMove.f a1_0 a1_1).bind fun bt261 => ((spec_MakeMove.f k bt255.1 bt255.2 bt261.1 bt261.2).bind fun bt263 => ((laws_toVessels.f k l0_0 l0_1).bind fun bt271 => ((laws_toMove.f a1_0 a1_1).bind fun bt278 => ((impl_MakeMove.f k bt271.1 bt271.2 bt278.1 bt278.2).bind fun bt280 => ((laws_eqVessels.f k bt280.1 bt280.2.1 bt263.1 bt263.2.1).bind fun t288 => (if t288 = true then (laws_FnExactMakeMove.j0 k bt263.2.2 bt280.2.2 (bt280.2.2 != bt263.2.2) l0_0 l0_1 a1_0 a1_1 bt263.1 bt263.2.1 bt271.1 bt271.2 bt280.1 bt280.2.1) else (laws_FnExactMakeMove.j0 k bt263.2.2 bt280.2.2 true l0_0 l0_1 a1_0 a1_1 bt263.1 bt263.2.1 bt271.1 bt271.2 bt280.1 bt280.2.1)))))))))) = some true := H
 have A3 := Aside0.mk A30
 clear A30
 by_cases c4 : t254 < 0
 ·rw [if_pos c4] at H
  have c4b0 : decide (t254 < 0) = true := decide_eq_true c4
  clear c4
  clear H
  go_enter Try.func6, Try.ntmps6
  go_wp2_with (first | ((with_reducible refine gate_dst (N := 2) rfl ?_); refine box_event ?hg (N := 2) ?hd (cs := #[.slice A0_0 l0_0.length c0_0, .slice A0_1 l0_1.length c0_1]) (t := 24) ?hr ?_; (case hd => rfl); (case hg => rfl); (case hr => first | (go_simp; done) | (go_simp; rfl)); intro gb252 hg w5 hbox hb; have BK252 := Aside0.mk (hbox); have GW252 := xg HB hg; have GE252 := xg HB hg; replace HB := xp HB hb; clear hb hbox hg) | ((with_reducible refine gate_dst (N := 3) rfl ?_); refine box_event ?hg (N := 3) ?hd (cs := #[.int .i64 a1_0, .int .i64 a1_1]) (t := 39) ?hr ?_; (case hd => rfl); (case hg => rfl); (case hr => first | (go_simp; done) | (go_simp; rfl)); intro gb253 hg w6 hbox hb; have BK253 := Aside0.mk (hbox); have GW253 := xg HB hg; have GE253 := xg HB hg; replace HB := xp HB hb; have NB252_253 := xl BK252 hg; have NB253_252 := xh BK252 hg; replace BK252 := xk BK252 hb; clear hb hbox hg; have hnb7 := NB252_253.out; have hnc7 := NB253_252.out; have hcz8_0 : w6.cell? ⟨gb252, 0, none⟩ = some (.slice A0_0 l0_0.length c0_0) := (blk_cell BK252.out 0).trans rfl; have hcz8_1 : w6.cell? ⟨gb252, 1, none⟩ = some (.slice A0_1 l0_1.length c0_1) := (blk_cell BK252.out 1).trans rfl; have hfz8_0 := blk_frozen BK252.out 0; have hfz8_1 := blk_frozen BK252.out 1) | ((with_reducible refine gate_callee (f := 15) rfl ?_); refine goesL_ (some 18) rfl rfl Try.func15 (by kernel_rfl) rfl #[.agg #[.slice A0_0 l0_0.length c0_0, .slice A0_1 l0_1.length c0_1], .int .i64 1048576] rfl (by (try simp only [List.map_toArray, List.map_cons, List.map_nil]); first | done | rfl | (simp only [List.length_drop, List.length_take]; rfl)) ?_; (with_reducible refine (laws_szVessels.calls _ _ l0_0 _ _ l0_1 1048576 t254 _ ?side1 ?side2 ?side3 ?side4 A3.out).mono ?_); (case side1 => exact xd ((Kd.C_below HR0_0.out HB.out))); (case side2 => exact HC0_0.out); (case side3 => exact xd ((Kd.C_below HR0_1.out HB.out))); (case side4 => exact HC0_1.out); rintro e w9 ⟨rfl, hb⟩; refine ⟨_, rfl, ?_⟩; replace BK252 := xk BK252 hb; replace BK253 := xk BK253 hb; replace HB := xp HB hb; (try clear hb); (try clear hb2); (try clear hk); (try clear hi)))
  go_ret
  exact ⟨by first | rfl | (simp [errW_none, errW_some] <;> rfl) | (simp [*, errW_none, errW_some] <;> rfl), by repeat (first | (with_reducible first | exact HB.out | apply below_alloc | apply pw_below_drewN | apply below_drew1 | refine below_set ?_ GE252.out | refine below_set ?_ GE253.out) | exact HB.out)⟩
 ·rw [if_neg c4] at H
  have c4b0 : decide (t254 < 0) = false := decide_eq_false c4
  clear c4
  replace H := Option.bind_eq_some_iff.mp H
  obtain ⟨⟨t255, t258⟩, A100, H⟩ := H
  replace H : ((laws_toMove.f a1_0 a1_1).bind fun bt261 => ((spec_MakeMove.f k t255 t258 bt261.1 bt261.2).bind fun bt263 => ((laws_toVessels.f k l0_0 l0_1).bind fun bt271 => ((laws_toMove.f a1_0 a1_1).bind fun bt278 => ((impl_MakeMove.f k bt271.1 bt271.2 bt278.1 bt278.2).bind fun bt280 => ((laws_eqVessels.f k bt280.1 bt280.2.1 bt263.1 bt263.2.1).bind fun t288 => (if t288 = true then (laws_FnExactMakeMove.j0 k bt263.2.2 bt280.2.2 (bt280.2.2 != bt263.2.2) l0_0 l0_1 a1_0 a1_1 bt263.1 bt263.2.1 bt271.1 bt271.2 bt280.1 bt280.2.1) else (laws_FnExactMakeMove.j0 k bt263.2.2 bt280.2.2 true l0_0 l0_1 a1_0 a1_1 bt263.1 bt263.2.1 bt271.1 bt271.2 bt280.1 bt280.2.1)))))))) = some true := H
  have A10 := Aside0.mk A100
  clear A100
  replace H := Option.bind_eq_some_iff.mp H
  obtain ⟨⟨t261, t262⟩, A110, H⟩ := H
  replace H : ((spec_MakeMove.f k t255 t258 t261 t262).bind fun bt263 => ((laws_toVessels.f k l0_0 l0_1).bind fun bt271 => ((laws_toMove.f a1_0 a1_1).bind fun bt278 => ((impl_MakeMove.f k bt271.1 bt271.2 bt278.1 bt278.2).bind fun bt280 => ((laws_eqVessels.f k bt280.1 bt280.2.1 bt263.1 bt263.2.1).bind fun t288 => (if t288 = true then (laws_FnExactMakeMove.j0 k bt263.2.2 bt280.2.2 (bt280.2.2 != bt263.2.2) l0_0 l0_1 a1_0 a1_1 bt263.1 bt263.2.1 bt271.1 bt271.2 bt280.1 bt280.2.1) else (laws_FnExactMakeMove.j0 k bt263.2.2 bt280.2.2 true l0_0 l0_1 a1_0 a1_1 bt263.1 bt263.2.1 bt271.1 bt271.2 bt280.1 bt280.2.1))))))) = some true := H
  have A11 := Aside0.mk A110
  clear A110
  replace H := Option.bind_eq_some_iff.mp H
  obtain ⟨⟨t263, t266, t269⟩, A120, H⟩ := H
  replace H : ((laws_toVessels.f k l0_0 l0_1).bind fun bt271 => ((laws_toMove.f a1_0 a1_1).bind fun bt278 => ((impl_MakeMove.f k bt271.1 bt271.2 bt278.1 bt278.2).bind fun bt280 => ((laws_eqVessels.f k bt280.1 bt280.2.1 t263 t266).bind fun t288 => (if t288 = true then (laws_FnExactMakeMove.j0 k t269 bt280.2.2 (bt280.2.2 != t269) l0_0 l0_1 a1_0 a1_1 t263 t266 bt271.1 bt271.2 bt280.1 bt280.2.1) else (laws_FnExactMakeMove.j0 k t269 bt280.2.2 true l0_0 l0_1 a1_0 a1_1 t263 t266 bt271.1 bt271.2 bt280.1 bt280.2.1)))))) = some true := H
  have A12 := Aside0.mk A120
  clear A120
  replace H := Option.bind_eq_some_iff.mp H
  obtain ⟨⟨t271, t274⟩, A130, H⟩ := H
  replace H : ((laws_toMove.f a1_0 a1_1).bind fun bt278 => ((impl_MakeMove.f k t271 t274 bt278.1 bt278.2).bind fun bt280 => ((laws_eqVessels.f k bt280.1 bt280.2.1 t263 t266).bind fun t288 => (if t288 = true then (laws_FnExactMakeMove.j0 k t269 bt280.2.2 (bt280.2.2 != t269) l0_0 l0_1 a1_0 a1_1 t263 t266 t271 t274 bt280.1 bt280.2.1) else (laws_FnExactMakeMove.j0 k t269 bt280.2.2 true l0_0 l0_1 a1_0 a1_1 t263 t266 t271 t274 bt280.1 bt280.2.1))))) = some true := H
  have A13 := Aside0.mk A130
  clear A130
  replace H := Option.bind_eq_some_iff.mp H
  obtain ⟨⟨t278, t279⟩, A140, H⟩ := H
  replace H : ((impl_MakeMove.f k t271 t274 t278 t279).bind fun bt280 => ((laws_eqVessels.f k bt280.1 bt280.2.1 t263 t266).bind fun t288 => (if t288 = true then (laws_FnExactMakeMove.j0 k t269 bt280.2.2 (bt280.2.2 != t269) l0_0 l0_1 a1_0 a1_1 t263 t266 t271 t274 bt280.1 bt280.2.1) else (laws_FnExactMakeMove.j0 k t269 bt280.2.2 true l0_0 l0_1 a1_0 a1_1 t263 t266 t271 t274 bt280.1 bt280.2.1)))) = some true := H
  have A14 := Aside0.mk A140
  clear A140
  replace H := Option.bind_eq_some_iff.mp H
  obtain ⟨⟨t280, t283, t286⟩, A150, H⟩ := H
  replace H : ((laws_eqVessels.f k t280 t283 t263 t266).bind fun t288 => (if t288 = true then (laws_FnExactMakeMove.j0 k t269 t286 (t286 != t269) l0_0 l0_1 a1_0 a1_1 t263 t266 t271 t274 t280 t283) else (laws_FnExactMakeMove.j0 k t269 t286 true l0_0 l0_1 a1_0 a1_1 t263 t266 t271 t274 t280 t283))) = some true := H
  have A15 := Aside0.mk A150
  clear A150
  have HC16 := Aside0.mk H
  clear H
  go_enter Try.func6, Try.ntmps6
  try go_wp2_with (first | ((with_reducible refine gate_dst (N := 2) rfl ?_); refine box_event ?hg (N := 2) ?hd (cs := #[.slice A0_0 l0_0.length c0_0, .slice A0_1 l0_1.length c0_1]) (t := 24) ?hr ?_; (case hd => rfl); (case hg => rfl); (case hr => first | (go_simp; done) | (go_simp; rfl)); intro gb252 hg w17 hbox hb; have BK252 := Aside0.mk (hbox); have GW252 := xg HB hg; have GE252 := xg HB hg; replace HB := xp HB hb; clear hb hbox hg) | ((with_reducible refine gate_dst (N := 3) rfl ?_); refine box_event ?hg (N := 3) ?hd (cs := #[.int .i64 a1_0, .int .i64 a1_1]) (t := 39) ?hr ?_; (case hd => rfl); (case hg => rfl); (case hr => first | (go_simp; done) | (go_simp; rfl)); intro gb253 hg w18 hbox hb; have BK253 := Aside0.mk (hbox); have GW253 := xg HB hg; have GE253 := xg HB hg; replace HB := xp HB hb; have NB252_253 := xl BK252 hg; have NB253_252 := xh BK252 hg; replace BK252 := xk BK252 hb; clear hb hbox hg; have hnb19 := NB252_253.out; have hnc19 := NB253_252.out; have hcz20_0 : w18.cell? ⟨gb252, 0, none⟩ = some (.slice A0_0 l0_0.length c0_0) := (blk_cell BK252.out 0).trans rfl; have hcz20_1 : w18.cell? ⟨gb252, 1, none⟩ = some (.slice A0_1 l0_1.length c0_1) := (blk_cell BK252.out 1).trans rfl; have hfz20_0 := blk_frozen BK252.out 0; have hfz20_1 := blk_frozen BK252.out 1) | ((with_reducible refine gate_callee (f := 15) rfl ?_); refine goesL_ (some 18) rfl rfl Try.func15 (by kernel_rfl) rfl #[.agg #[.slice A0_0 l0_0.length c0_0, .slice A0_1 l0_1.length c0_1], .int .i64 1048576] rfl (by (try simp only [List.map_toArray, List.map_cons, List.map_nil]); first | done | rfl | (simp only [List.length_drop, List.length_take]; rfl)) ?_; (with_reducible refine (laws_szVessels.calls _ _ l0_0 _ _ l0_1 1048576 t254 _ ?side1 ?side2 ?side3 ?side4 A3.out).mono ?_); (case side1 => exact xd ((Kd.C_below HR0_0.out HB.out))); (case side2 => exact HC0_0.out); (case side3 => exact xd ((Kd.C_below HR0_1.out HB.out))); (case side4 => exact HC0_1.out); rintro e w21 ⟨rfl, hb⟩; refine ⟨_, rfl, ?_⟩; replace BK252 := xk BK252 hb; replace BK253 := xk BK253 hb; replace HB := xp HB hb; (try clear hb); (try clear hb2); (try clear hk); (try clear hi)))
  replace BK252 := xv BK252
  replace BK253 := xv BK253
  replace HB := Aside0.mk (below_drew1 HB.out)
  refine start_ (n := 11) (S := fun w' => w'.cell? ⟨gb252, 0, none⟩ = some (.slice A0_0 l0_0.length c0_0) ∧ w'.cell? ⟨gb252, 1, none⟩ = some (.slice A0_1 l0_1.length c0_1) ∧ w'.cell? ⟨gb253, 0, none⟩ = some (.int .i64 a1_0) ∧ w'.cell? ⟨gb253, 1, none⟩ = some (.int .i64 a1_1)) (ds := []) #[false, false, false, false, false, false, false, false, false, false, false] (by kernel_rfl) rfl rfl ⟨(blk_cell BK252.out 0).trans rfl, (blk_cell BK252.out 1).trans rfl, (blk_cell BK253.out 0).trans rfl, (blk_cell BK253.out 1).trans rfl⟩ (fun hHeld => ?_); refine with_tabW laws_FnExactMakeMove.tab5 laws_FnExactMakeMove.bits5 (fun HT_ HW_ => ?_)
  generalize w21.drew = w22 at BK252 BK253 HB hHeld ⊢
  refine take_ (i := 0) (N := some 22) (v := ?_) (a' := ?_) #[true, false, false, false, false, false, false, false, false, false, false] rfl rfl (take_ofW HT_.out HW_.out (by kernel_rfl)) (fun _ _ _ h => h) (Or.inl ⟨by rfl, ?_⟩) hHeld ?_ ?_
  rotate_left
  ·rintro w' ⟨s0, s1, s2, s3⟩
   go_simp
   with_reducible rfl
  rotate_left
  ·simp only [Act.put, List.setIfInBounds_toArray, List.set_cons_zero, List.set_cons_succ, i64_w, i32_w]
   rfl
  refine take_ (i := 2) (N := some 24) (v := ?_) (a' := ?_) #[true, false, true, false, false, false, false, false, false, false, false] rfl rfl (take_ofW HT_.out HW_.out (by kernel_rfl)) (fun _ _ _ h => h) (Or.inl ⟨by rfl, ?_⟩) hHeld ?_ ?_
  rotate_left
  ·rintro w' ⟨s0, s1, s2, s3⟩
   go_simp
   with_reducible rfl
  rotate_left
  ·simp only [Act.put, List.setIfInBounds_toArray, List.set_cons_zero, List.set_cons_succ, i64_w, i32_w]
   rfl
  refine join_ (σ := Value × Value × Value × Value × Nat) 2 #[true, true, true, true, true, true, true, true, true, false, false] (fun s_ => [(23, .agg #[s_.1, s_.2.1]), (25, .agg #[.int .i64 t261, .int .i64 t262]), (26, .tuple #[.agg #[s_.2.2.1, s_.2.2.2.1], .bool t269]), (6, .pointer (some ⟨s_.2.2.2.2, 0, none⟩)), (21, .tuple #[.agg #[s_.2.2.1, s_.2.2.2.1], .bool t269]), (27, .agg #[s_.2.2.1, s_.2.2.2.1]), (28, .bool t269)]) (fun s_ w' => (w'.cell? ⟨gb252, 0, none⟩ = some (.slice A0_0 l0_0.length c0_0) ∧ w'.cell? ⟨gb252, 1, none⟩ = some (.slice A0_1 l0_1.length c0_1) ∧ w'.cell? ⟨gb253, 0, none⟩ = some (.int .i64 a1_0) ∧ w'.cell? ⟨gb253, 1, none⟩ = some (.int .i64 a1_1)) ∧ (Kd.R (Kd.int .i64) 3 w' w.heap.size (fun k_ => some k_ ≠ (s_.2.1 : Value).ownBlock ∧ some k_ ≠ (s_.2.2.1 : Value).ownBlock ∧ some k_ ≠ (s_.2.2.2.1 : Value).ownBlock) s_.1 t255) ∧ (Kd.R (Kd.int .i64) 3 w' w.heap.size (fun k_ => some k_ ≠ (s_.1 : Value).ownBlock ∧ some k_ ≠ (s_.2.2.1 : Value).ownBlock ∧ some k_ ≠ (s_.2.2.2.1 : Value).ownBlock) s_.2.1 t258) ∧ (Kd.R (Kd.int .i64) 3 w' w.heap.size (fun k_ => some k_ ≠ (s_.1 : Value).ownBlock ∧ some k_ ≠ (s_.2.1 : Value).ownBlock ∧ some k_ ≠ (s_.2.2.2.1 : Value).ownBlock) s_.2.2.1 t263) ∧ (Kd.R (Kd.int .i64) 3 w' w.heap.size (fun k_ => some k_ ≠ (s_.1 : Value).ownBlock ∧ some k_ ≠ (s_.2.1 : Value).ownBlock ∧ some k_ ≠ (s_.2.2.1 : Value).ownBlock) s_.2.2.2.1 t266) ∧ (w'.heap[gb252]? = some (.cells #[.slice A0_0 l0_0.length c0_0, .slice A0_1 l0_1.length c0_1] 24 (0, 0))) ∧ (w'.heap[gb253]? = some (.cells #[.int .i64 a1_0, .int .i64 a1_1] 39 (0, 0))) ∧ (w'.heap[s_.2.2.2.2]? = some (.cells #[.slice none 0 0, .slice none 0 0] 26 (0, 0))) ∧ (w.heap.size ≤ s_.2.2.2.2) ∧ (w.heap.size ≤ s_.2.2.2.2) ∧ (gb252 ≠ s_.2.2.2.2) ∧ (s_.2.2.2.2 ≠ gb252) ∧ (gb253 ≠ s_.2.2.2.2) ∧ (s_.2.2.2.2 ≠ gb253) ∧ (Below w.heap.size w w')) ?_ ?_
  rotate_left
  ·intro hCont
   refine two_ (i := 1) (j := 8) (Ni := some 23) (Nj := some 6) #[true, true, true, false, false, false, false, false, false, false, false] #[true, false, true, false, false, false, false, false, true, false, false] rfl rfl rfl rfl (two_of HT_.out (by kernel_rfl)) (by decide) (by decide) (fun K hK => ?_) (fun K hK => ?_)
   ·skip
    refine goes_ Try.func17 (by kernel_rfl) rfl #[.agg #[.slice A0_0 l0_0.length c0_0, .slice A0_1 l0_1.length c0_1]] (by rfl) rfl rfl (by (try simp only [List.map_toArray, List.map_cons, List.map_nil]); first | done | rfl | (simp only [List.length_drop, List.length_take]; rfl)) ?_
    with_reducible refine (laws_toVessels.calls k _ _ l0_0 _ _ l0_1 t255 t258 _ ?side1 ?side2 ?side3 ?side4 A10.out).mono ?_
    (case side1 => exact xd ((Kd.C_below HR0_0.out HB.out)))
    (case side2 => exact HC0_0.out)
    (case side3 => exact xd ((Kd.C_below HR0_1.out HB.out)))
    (case side4 => exact HC0_1.out)
    rintro e w23 ⟨v256, v259, rfl, ho0, ho1, hb⟩
    refine ⟨_, rfl, ?_⟩
    have HO257 := Aside0.mk (Kd.R_lower ho0 (below_size (xs HB.out)))
    have HO260 := Aside0.mk (Kd.R_lower ho1 (below_size (xs HB.out)))
    replace BK252 := xk BK252 hb
    replace BK253 := xk BK253 hb
    replace HB := xp HB hb
    (try clear hb)
    (try clear hb2)
    (try clear hk)
    (try clear hi)
    (try clear ho0)
    (try clear ho1)
    refine hK.out _ _ ⟨(blk_cell BK252.out 0).trans rfl, (blk_cell BK252.out 1).trans rfl, (blk_cell BK253.out 0).trans rfl, (blk_cell BK253.out 1).trans rfl⟩ (fun hHeld => ?_)
    clear hK K
    refine norm_ (a' := ?_) ?_ ?_
    rotate_left
    ·show Act.put _ (some 23) _ = _
     simp only [Act.put, List.setIfInBounds_toArray, List.set_cons_zero, List.set_cons_succ, i64_w, i32_w]
     rfl
    refine two_ (i := 3) (j := 8) (Ni := some 25) (Nj := some 6) #[true, true, true, true, false, false, false, false, false, false, false] #[true, true, true, false, false, false, false, false, true, false, false] rfl rfl rfl rfl (two_of HT_.out (by kernel_rfl)) (by decide) (by decide) (fun K hK => ?_) (fun K hK => ?_)
    ·skip
     refine goes_ Try.func27 (by kernel_rfl) rfl #[.agg #[.int .i64 a1_0, .int .i64 a1_1]] (by rfl) rfl rfl (by (try simp only [List.map_toArray, List.map_cons, List.map_nil]); first | done | rfl | (simp only [List.length_drop, List.length_take]; rfl)) ?_
     with_reducible refine (laws_toMove.calls a1_0 a1_1 t261 t262 _ A11.out).mono ?_
     rintro e w24 ⟨rfl, hb⟩
     refine ⟨_, rfl, ?_⟩
     replace HO257 := xq HO257 hb
     replace HO260 := xq HO260 hb
     replace BK252 := xk BK252 hb
     replace BK253 := xk BK253 hb
     replace HB := xp HB hb
     (try clear hb)
     (try clear hb2)
     (try clear hk)
     (try clear hi)
     obtain ⟨Ao25, co25, eo25⟩ := Kd.R_slice HO257.out
     (first | subst eo25 | (injection eo25 with f1_ f2_ f3_; have f4_ := f1_.symm; have f5_ := f3_.symm; clear f1_ f2_ f3_; subst f4_; subst f5_))
     obtain ⟨Ao26, co26, eo26⟩ := Kd.R_slice HO260.out
     (first | subst eo26 | (injection eo26 with f1_ f2_ f3_; have f4_ := f1_.symm; have f5_ := f3_.symm; clear f1_ f2_ f3_; subst f4_; subst f5_))
     refine hK.out _ _ ⟨(blk_cell BK252.out 0).trans rfl, (blk_cell BK252.out 1).trans rfl, (blk_cell BK253.out 0).trans rfl, (blk_cell BK253.out 1).trans rfl⟩ (fun hHeld => ?_)
     clear hK K
     refine norm_ (a' := ?_) ?_ ?_
     rotate_left
     ·show Act.put _ (some 25) _ = _
      simp only [Act.put, List.setIfInBounds_toArray, List.set_cons_zero, List.set_cons_succ, i64_w, i32_w]
      rfl
     refine two_ (i := 4) (j := 8) (Ni := some 26) (Nj := some 6) #[true, true, true, true, true, false, false, false, false, false, false] #[true, true, true, true, false, false, false, false, true, false, false] rfl rfl rfl rfl (two_of HT_.out (by kernel_rfl)) (by decide) (by decide) (fun K hK => ?_) (fun K hK => ?_)
     ·skip
      refine goes_ Try.func26 (by kernel_rfl) rfl #[.agg #[.slice Ao25 t255.length co25, .slice Ao26 t258.length co26], .agg #[.int .i64 t261, .int .i64 t262]] (by rfl) rfl rfl (by (try simp only [List.map_toArray, List.map_cons, List.map_nil]); first | done | rfl | (simp only [List.length_drop, List.length_take]; rfl)) ?_
      with_reducible refine (spec_MakeMove.calls k _ _ t255 _ _ t258 t261 t262 t263 t266 t269 _ ?side1 ?side2 ?side3 ?side4 A12.out).mono ?_
      (case side1 => exact xd ((Kd.R_reads' HO257.out).2.2))
      (case side2 => exact (Kd.R_reads' HO257.out).2.1)
      (case side3 => exact xd ((Kd.R_reads' HO260.out).2.2))
      (case side4 => exact (Kd.R_reads' HO260.out).2.1)
      rintro e w27 ⟨v264, v267, rfl, ho0, ho1, hb⟩
      refine ⟨_, rfl, ?_⟩
      have HO265 := Aside0.mk (Kd.R_lower (Kd.R_new' (Kd.R_new' ho0 (Kd.R_lt (xr HO257.out))) (Kd.R_lt (xr HO260.out))) (below_size (xs HB.out)))
      have HO268 := Aside0.mk (Kd.R_lower (Kd.R_new' (Kd.R_new' ho1 (Kd.R_lt (xr HO257.out))) (Kd.R_lt (xr HO260.out))) (below_size (xs HB.out)))
      replace HO257 := xt HO257 hb ho0 ho1
      replace HO260 := xt HO260 hb ho0 ho1
      replace BK252 := xk BK252 hb
      replace BK253 := xk BK253 hb
      replace HB := xp HB hb
      (try clear hb)
      (try clear hb2)
      (try clear hk)
      (try clear hi)
      (try clear ho0)
      (try clear ho1)
      refine hK.out _ _ ⟨(blk_cell BK252.out 0).trans rfl, (blk_cell BK252.out 1).trans rfl, (blk_cell BK253.out 0).trans rfl, (blk_cell BK253.out 1).trans rfl⟩ (fun hHeld => ?_)
      clear hK K
      refine norm_ (a' := ?_) ?_ ?_
      rotate_left
      ·show Act.put _ (some 26) _ = _
       simp only [Act.put, List.setIfInBounds_toArray, List.set_cons_zero, List.set_cons_succ, i64_w, i32_w]
       rfl
      refine pure_ (i := 5) (N := some 21) (v := ?_) (a' := ?_) #[true, true, true, true, true, true, false, false, false, false, false] rfl rfl (any_of HT_.out (by kernel_rfl)) (fun _ _ _ h => h) (Or.inl ⟨by rfl, ?_⟩) ?_ ?_
      rotate_left
      ·intro w'
       go_simp
       with_reducible rfl
      rotate_left
      ·simp only [Act.put, List.setIfInBounds_toArray, List.set_cons_zero, List.set_cons_succ, i64_w, i32_w]
       rfl
      refine pure_ (i := 6) (N := some 27) (v := ?_) (a' := ?_) #[true, true, true, true, true, true, true, false, false, false, false] rfl rfl (any_of HT_.out (by kernel_rfl)) (fun _ _ _ h => h) (Or.inl ⟨by rfl, ?_⟩) ?_ ?_
      rotate_left
      ·intro w'
       go_simp
       with_reducible rfl
      rotate_left
      ·simp only [Act.put, List.setIfInBounds_toArray, List.set_cons_zero, List.set_cons_succ, i64_w, i32_w]
       rfl
      refine pure_ (i := 7) (N := some 28) (v := ?_) (a' := ?_) #[true, true, true, true, true, true, true, true, false, false, false] rfl rfl (any_of HT_.out (by kernel_rfl)) (fun _ _ _ h => h) (Or.inl ⟨by rfl, ?_⟩) ?_ ?_
      rotate_left
      ·intro w'
       go_simp
       with_reducible rfl
      rotate_left
      ·simp only [Act.put, List.setIfInBounds_toArray, List.set_cons_zero, List.set_cons_succ, i64_w, i32_w]
       rfl
      refine one_ (i := 8) (N := some 6) #[true, true, true, true, true, true, true, true, true, false, false] rfl rfl (one_of HT_.out (by kernel_rfl)) (by decide) (fun K hK => ?_)
      refine box_step ?hg (N := 6) ?hd (cs := #[.slice none 0 0, .slice none 0 0]) (t := 26) ?hr ?_; (case hd => rfl); (case hg => rfl); (case hr => first | (go_simp; done) | (go_simp; rfl))
      intro gb270 hg w28 hbox hb
      replace HO257 := xq HO257 hb
      replace HO260 := xq HO260 hb
      replace HO265 := xq HO265 hb
      replace HO268 := xq HO268 hb
      have BK270 := Aside0.mk (hbox)
      have GW270 := xg HB hg
      have GE270 := xg HB hg
      replace HB := xp HB hb
      have NB252_270 := xl BK252 hg
      have NB270_252 := xh BK252 hg
      replace BK252 := xk BK252 hb
      have NB253_270 := xl BK253 hg
      have NB270_253 := xh BK253 hg
      replace BK253 := xk BK253 hb
      clear hb hbox hg
      refine hK.out _ _ ⟨(blk_cell BK252.out 0).trans rfl, (blk_cell BK252.out 1).trans rfl, (blk_cell BK253.out 0).trans rfl, (blk_cell BK253.out 1).trans rfl⟩ (fun hHeld => ?_)
      clear hK K
      refine norm_ (a' := ?_) ?_ ?_
      rotate_left
      ·show Act.put _ (some 6) _ = _
       simp only [Act.put, List.setIfInBounds_toArray, List.set_cons_zero, List.set_cons_succ, i64_w, i32_w]
       rfl
      exact norm_ (by simp only [putAll, Act.put, List.setIfInBounds_toArray, List.set_cons_zero, List.set_cons_succ]) (hCont (.slice Ao25 t255.length co25, .slice Ao26 t258.length co26, v264, v267, gb270) _ ⟨hHeld, (xm HO257 (fun _ hk => ⟨hk.1.1, ⟨hk.1.2, hk.2⟩⟩)), (xm HO260 (fun _ hk => ⟨hk.1.1, ⟨hk.1.2, hk.2⟩⟩)), (xm HO265 (fun _ hk => ⟨hk.1.2, ⟨hk.2, hk.1.1⟩⟩)), (xm HO268 (fun _ hk => ⟨hk.1.2, ⟨hk.2, hk.1.1⟩⟩)), (xb BK252.out), (xb BK253.out), (xb BK270.out), GW270.out, GE270.out, NB252_270.out, NB270_252.out, NB253_270.out, NB270_253.out, (xs HB.out)⟩)
     ·skip
      refine box_step ?hg (N := 6) ?hd (cs := #[.slice none 0 0, .slice none 0 0]) (t := 26) ?hr ?_; (case hd => rfl); (case hg => rfl); (case hr => first | (go_simp; done) | (go_simp; rfl))
      intro gb270 hg w25 hbox hb
      replace HO257 := xq HO257 hb
      replace HO260 := xq HO260 hb
      have BK270 := Aside0.mk (hbox)
      have GW270 := xg HB hg
      have GE270 := xg HB hg
      replace HB := xp HB hb
      have NB252_270 := xl BK252 hg
      have NB270_252 := xh BK252 hg
      replace BK252 := xk BK252 hb
      have NB253_270 := xl BK253 hg
      have NB270_253 := xh BK253 hg
      replace BK253 := xk BK253 hb
      clear hb hbox hg
      obtain ⟨Ao26, co26, eo26⟩ := Kd.R_slice HO257.out
      (first | subst eo26 | (injection eo26 with f1_ f2_ f3_; have f4_ := f1_.symm; have f5_ := f3_.symm; clear f1_ f2_ f3_; subst f4_; subst f5_))
      obtain ⟨Ao27, co27, eo27⟩ := Kd.R_slice HO260.out
      (first | subst eo27 | (injection eo27 with f1_ f2_ f3_; have f4_ := f1_.symm; have f5_ := f3_.symm; clear f1_ f2_ f3_; subst f4_; subst f5_))
      refine hK.out _ _ ⟨(blk_cell BK252.out 0).trans rfl, (blk_cell BK252.out 1).trans rfl, (blk_cell BK253.out 0).trans rfl, (blk_cell BK253.out 1).trans rfl⟩ (fun hHeld => ?_)
      clear hK K
      refine norm_ (a' := ?_) ?_ ?_
      rotate_left
      ·show Act.put _ (some 6) _ = _
       simp only [Act.put, List.setIfInBounds_toArray, List.set_cons_zero, List.set_cons_succ, i64_w, i32_w]
       rfl
      refine one_ (i := 4) (N := some 26) #[true, true, true, true, true, false, false, false, true, false, false] rfl rfl (one_of HT_.out (by kernel_rfl)) (by decide) (fun K hK => ?_)
      refine goes_ Try.func26 (by kernel_rfl) rfl #[.agg #[.slice Ao26 t255.length co26, .slice Ao27 t258.length co27], .agg #[.int .i64 t261, .int .i64 t262]] (by rfl) rfl rfl (by (try simp only [List.map_toArray, List.map_cons, List.map_nil]); first | done | rfl | (simp only [List.length_drop, List.length_take]; rfl)) ?_
      with_reducible refine (spec_MakeMove.calls k _ _ t255 _ _ t258 t261 t262 t263 t266 t269 _ ?side1 ?side2 ?side3 ?side4 A12.out).mono ?_
      (case side1 => exact xd ((Kd.R_reads' HO257.out).2.2))
      (case side2 => exact (Kd.R_reads' HO257.out).2.1)
      (case side3 => exact xd ((Kd.R_reads' HO260.out).2.2))
      (case side4 => exact (Kd.R_reads' HO260.out).2.1)
      rintro e w28 ⟨v264, v267, rfl, ho0, ho1, hb⟩
      refine ⟨_, rfl, ?_⟩
      have HO265 := Aside0.mk (Kd.R_lower (Kd.R_new' (Kd.R_new' ho0 (Kd.R_lt (xr HO257.out))) (Kd.R_lt (xr HO260.out))) (below_size (xs HB.out)))
      have HO268 := Aside0.mk (Kd.R_lower (Kd.R_new' (Kd.R_new' ho1 (Kd.R_lt (xr HO257.out))) (Kd.R_lt (xr HO260.out))) (below_size (xs HB.out)))
      replace HO257 := xt HO257 hb ho0 ho1
      replace HO260 := xt HO260 hb ho0 ho1
      replace BK252 := xk BK252 hb
      replace BK253 := xk BK253 hb
      replace BK270 := xk BK270 hb
      replace HB := xp HB hb
      (try clear hb)
      (try clear hb2)
      (try clear hk)
      (try clear hi)
      (try clear ho0)
      (try clear ho1)
      refine hK.out _ _ ⟨(blk_cell BK252.out 0).trans rfl, (blk_cell BK252.out 1).trans rfl, (blk_cell BK253.out 0).trans rfl, (blk_cell BK253.out 1).trans rfl⟩ (fun hHeld => ?_)
      clear hK K
      refine norm_ (a' := ?_) ?_ ?_
      rotate_left
      ·show Act.put _ (some 26) _ = _
       simp only [Act.put, List.setIfInBounds_toArray, List.set_cons_zero, List.set_cons_succ, i64_w, i32_w]
       rfl
      refine pure_ (i := 5) (N := some 21) (v := ?_) (a' := ?_) #[true, true, true, true, true, true, false, false, true, false, false] rfl rfl (any_of HT_.out (by kernel_rfl)) (fun _ _ _ h => h) (Or.inl ⟨by rfl, ?_⟩) ?_ ?_
      rotate_left
      ·intro w'
       go_simp
       with_reducible rfl
      rotate_left
      ·simp only [Act.put, List.setIfInBounds_toArray, List.set_cons_zero, List.set_cons_succ, i64_w, i32_w]
       rfl
      refine pure_ (i := 6) (N := some 27) (v := ?_) (a' := ?_) #[true, true, true, true, true, true, true, false, true, false, false] rfl rfl (any_of HT_.out (by kernel_rfl)) (fun _ _ _ h => h) (Or.inl ⟨by rfl, ?_⟩) ?_ ?_
      rotate_left
      ·intro w'
       go_simp
       with_reducible rfl
      rotate_left
      ·simp only [Act.put, List.setIfInBounds_toArray, List.set_cons_zero, List.set_cons_succ, i64_w, i32_w]
       rfl
      refine pure_ (i := 7) (N := some 28) (v := ?_) (a' := ?_) #[true, true, true, true, true, true, true, true, true, false, false] rfl rfl (any_of HT_.out (by kernel_rfl)) (fun _ _ _ h => h) (Or.inl ⟨by rfl, ?_⟩) ?_ ?_
      rotate_left
      ·intro w'
       go_simp
       with_reducible rfl
      rotate_left
      ·simp only [Act.put, List.setIfInBounds_toArray, List.set_cons_zero, List.set_cons_succ, i64_w, i32_w]
       rfl
      exact norm_ (by simp only [putAll, Act.put, List.setIfInBounds_toArray, List.set_cons_zero, List.set_cons_succ]) (hCont (.slice Ao26 t255.length co26, .slice Ao27 t258.length co27, v264, v267, gb270) _ ⟨hHeld, (xm HO257 (fun _ hk => ⟨hk.1.1, ⟨hk.1.2, hk.2⟩⟩)), (xm HO260 (fun _ hk => ⟨hk.1.1, ⟨hk.1.2, hk.2⟩⟩)), (xm HO265 (fun _ hk => ⟨hk.1.2, ⟨hk.2, hk.1.1⟩⟩)), (xm HO268 (fun _ hk => ⟨hk.1.2, ⟨hk.2, hk.1.1⟩⟩)), (xb BK252.out), (xb BK253.out), (xb BK270.out), GW270.out, GE270.out, NB252_270.out, NB270_252.out, NB253_270.out, NB270_253.out, (xs HB.out)⟩)
    ·skip
     refine box_step ?hg (N := 6) ?hd (cs := #[.slice none 0 0, .slice none 0 0]) (t := 26) ?hr ?_; (case hd => rfl); (case hg => rfl); (case hr => first | (go_simp; done) | (go_simp; rfl))
     intro gb270 hg w24 hbox hb
     replace HO257 := xq HO257 hb
     replace HO260 := xq HO260 hb
     have BK270 := Aside0.mk (hbox)
     have GW270 := xg HB hg
     have GE270 := xg HB hg
     replace HB := xp HB hb
     have NB252_270 := xl BK252 hg
     have NB270_252 := xh BK252 hg
     replace BK252 := xk BK252 hb
     have NB253_270 := xl BK253 hg
     have NB270_253 := xh BK253 hg
     replace BK253 := xk BK253 hb
     clear hb hbox hg
     refine hK.out _ _ ⟨(blk_cell BK252.out 0).trans rfl, (blk_cell BK252.out 1).trans rfl, (blk_cell BK253.out 0).trans rfl, (blk_cell BK253.out 1).trans rfl⟩ (fun hHeld => ?_)
     clear hK K
     refine norm_ (a' := ?_) ?_ ?_
     rotate_left
     ·show Act.put _ (some 6) _ = _
      simp only [Act.put, List.setIfInBounds_toArray, List.set_cons_zero, List.set_cons_succ, i64_w, i32_w]
      rfl
     refine one_ (i := 3) (N := some 25) #[true, true, true, true, false, false, false, false, true, false, false] rfl rfl (one_of HT_.out (by kernel_rfl)) (by decide) (fun K hK => ?_)
     refine goes_ Try.func27 (by kernel_rfl) rfl #[.agg #[.int .i64 a1_0, .int .i64 a1_1]] (by rfl) rfl rfl (by (try simp only [List.map_toArray, List.map_cons, List.map_nil]); first | done | rfl | (simp only [List.length_drop, List.length_take]; rfl)) ?_
     with_reducible refine (laws_toMove.calls a1_0 a1_1 t261 t262 _ A11.out).mono ?_
     rintro e w25 ⟨rfl, hb⟩
     refine ⟨_, rfl, ?_⟩
     replace HO257 := xq HO257 hb
     replace HO260 := xq HO260 hb
     replace BK252 := xk BK252 hb
     replace BK253 := xk BK253 hb
     replace BK270 := xk BK270 hb
     replace HB := xp HB hb
     (try clear hb)
     (try clear hb2)
     (try clear hk)
     (try clear hi)
     obtain ⟨Ao26, co26, eo26⟩ := Kd.R_slice HO257.out
     (first | subst eo26 | (injection eo26 with f1_ f2_ f3_; have f4_ := f1_.symm; have f5_ := f3_.symm; clear f1_ f2_ f3_; subst f4_; subst f5_))
     obtain ⟨Ao27, co27, eo27⟩ := Kd.R_slice HO260.out
     (first | subst eo27 | (injection eo27 with f1_ f2_ f3_; have f4_ := f1_.symm; have f5_ := f3_.symm; clear f1_ f2_ f3_; subst f4_; subst f5_))
     refine hK.out _ _ ⟨(blk_cell BK252.out 0).trans rfl, (blk_cell BK252.out 1).trans rfl, (blk_cell BK253.out 0).trans rfl, (blk_cell BK253.out 1).trans rfl⟩ (fun hHeld => ?_)
     clear hK K
     refine norm_ (a' := ?_) ?_ ?_
     rotate_left
     ·show Act.put _ (some 25) _ = _
      simp only [Act.put, List.setIfInBounds_toArray, List.set_cons_zero, List.set_cons_succ, i64_w, i32_w]
      rfl
     refine one_ (i := 4) (N := some 26) #[true, true, true, true, true, false, false, false, true, false, false] rfl rfl (one_of HT_.out (by kernel_rfl)) (by decide) (fun K hK => ?_)
     refine goes_ Try.func26 (by kernel_rfl) rfl #[.agg #[.slice Ao26 t255.length co26, .slice Ao27 t258.length co27], .agg #[.int .i64 t261, .int .i64 t262]] (by rfl) rfl rfl (by (try simp only [List.map_toArray, List.map_cons, List.map_nil]); first | done | rfl | (simp only [List.length_drop, List.length_take]; rfl)) ?_
     with_reducible refine (spec_MakeMove.calls k _ _ t255 _ _ t258 t261 t262 t263 t266 t269 _ ?side1 ?side2 ?side3 ?side4 A12.out).mono ?_
     (case side1 => exact xd ((Kd.R_reads' HO257.out).2.2))
     (case side2 => exact (Kd.R_reads' HO257.out).2.1)
     (case side3 => exact xd ((Kd.R_reads' HO260.out).2.2))
     (case side4 => exact (Kd.R_reads' HO260.out).2.1)
     rintro e w28 ⟨v264, v267, rfl, ho0, ho1, hb⟩
     refine ⟨_, rfl, ?_⟩
     have HO265 := Aside0.mk (Kd.R_lower (Kd.R_new' (Kd.R_new' ho0 (Kd.R_lt (xr HO257.out))) (Kd.R_lt (xr HO260.out))) (below_size (xs HB.out)))
     have HO268 := Aside0.mk (Kd.R_lower (Kd.R_new' (Kd.R_new' ho1 (Kd.R_lt (xr HO257.out))) (Kd.R_lt (xr HO260.out))) (below_size (xs HB.out)))
     replace HO257 := xt HO257 hb ho0 ho1
     replace HO260 := xt HO260 hb ho0 ho1
     replace BK252 := xk BK252 hb
     replace BK253 := xk BK253 hb
     replace BK270 := xk BK270 hb
     replace HB := xp HB hb
     (try clear hb)
     (try clear hb2)
     (try clear hk)
     (try clear hi)
     (try clear ho0)
     (try clear ho1)
     refine hK.out _ _ ⟨(blk_cell BK252.out 0).trans rfl, (blk_cell BK252.out 1).trans rfl, (blk_cell BK253.out 0).trans rfl, (blk_cell BK253.out 1).trans rfl⟩ (fun hHeld => ?_)
     clear hK K
     refine norm_ (a' := ?_) ?_ ?_
     rotate_left
     ·show Act.put _ (some 26) _ = _
      simp only [Act.put, List.setIfInBounds_toArray, List.set_cons_zero, List.set_cons_succ, i64_w, i32_w]
      rfl
     refine pure_ (i := 5) (N := some 21) (v := ?_) (a' := ?_) #[true, true, true, true, true, true, false, false, true, false, false] rfl rfl (any_of HT_.out (by kernel_rfl)) (fun _ _ _ h => h) (Or.inl ⟨by rfl, ?_⟩) ?_ ?_
     rotate_left
     ·intro w'
      go_simp
      with_reducible rfl
     rotate_left
     ·simp only [Act.put, List.setIfInBounds_toArray, List.set_cons_zero, List.set_cons_succ, i64_w, i32_w]
      rfl
     refine pure_ (i := 6) (N := some 27) (v := ?_) (a' := ?_) #[true, true, true, true, true, true, true, false, true, false, false] rfl rfl (any_of HT_.out (by kernel_rfl)) (fun _ _ _ h => h) (Or.inl ⟨by rfl, ?_⟩) ?_ ?_
     rotate_left
     ·intro w'
      go_simp
      with_reducible rfl
     rotate_left
     ·simp only [Act.put, List.setIfInBounds_toArray, List.set_cons_zero, List.set_cons_succ, i64_w, i32_w]
      rfl
     refine pure_ (i := 7) (N := some 28) (v := ?_) (a' := ?_) #[true, true, true, true, true, true, true, true, true, false, false] rfl rfl (any_of HT_.out (by kernel_rfl)) (fun _ _ _ h => h) (Or.inl ⟨by rfl, ?_⟩) ?_ ?_
     rotate_left
     ·intro w'
      go_simp
      with_reducible rfl
     rotate_left
     ·simp only [Act.put, List.setIfInBounds_toArray, List.set_cons_zero, List.set_cons_succ, i64_w, i32_w]
      rfl
     exact norm_ (by simp only [putAll, Act.put, List.setIfInBounds_toArray, List.set_cons_zero, List.set_cons_succ]) (hCont (.slice Ao26 t255.length co26, .slice Ao27 t258.length co27, v264, v267, gb270) _ ⟨hHeld, (xm HO257 (fun _ hk => ⟨hk.1.1, ⟨hk.1.2, hk.2⟩⟩)), (xm HO260 (fun _ hk => ⟨hk.1.1, ⟨hk.1.2, hk.2⟩⟩)), (xm HO265 (fun _ hk => ⟨hk.1.2, ⟨hk.2, hk.1.1⟩⟩)), (xm HO268 (fun _ hk => ⟨hk.1.2, ⟨hk.2, hk.1.1⟩⟩)), (xb BK252.out), (xb BK253.out), (xb BK270.out), GW270.out, GE270.out, NB252_270.out, NB270_252.out, NB253_270.out, NB270_253.out, (xs HB.out)⟩)
   ·skip
    refine box_step ?hg (N := 6) ?hd (cs := #[.slice none 0 0, .slice none 0 0]) (t := 26) ?hr ?_; (case hd => rfl); (case hg => rfl); (case hr => first | (go_simp; done) | (go_simp; rfl))
    intro gb270 hg w23 hbox hb
    have BK270 := Aside0.mk (hbox)
    have GW270 := xg HB hg
    have GE270 := xg HB hg
    replace HB := xp HB hb
    have NB252_270 := xl BK252 hg
    have NB270_252 := xh BK252 hg
    replace BK252 := xk BK252 hb
    have NB253_270 := xl BK253 hg
    have NB270_253 := xh BK253 hg
    replace BK253 := xk BK253 hb
    clear hb hbox hg
    refine hK.out _ _ ⟨(blk_cell BK252.out 0).trans rfl, (blk_cell BK252.out 1).trans rfl, (blk_cell BK253.out 0).trans rfl, (blk_cell BK253.out 1).trans rfl⟩ (fun hHeld => ?_)
    clear hK K
    refine norm_ (a' := ?_) ?_ ?_
    rotate_left
    ·show Act.put _ (some 6) _ = _
     simp only [Act.put, List.setIfInBounds_toArray, List.set_cons_zero, List.set_cons_succ, i64_w, i32_w]
     rfl
    refine one_ (i := 1) (N := some 23) #[true, true, true, false, false, false, false, false, true, false, false] rfl rfl (one_of HT_.out (by kernel_rfl)) (by decide) (fun K hK => ?_)
    refine goes_ Try.func17 (by kernel_rfl) rfl #[.agg #[.slice A0_0 l0_0.length c0_0, .slice A0_1 l0_1.length c0_1]] (by rfl) rfl rfl (by (try simp only [List.map_toArray, List.map_cons, List.map_nil]); first | done | rfl | (simp only [List.length_drop, List.length_take]; rfl)) ?_
    with_reducible refine (laws_toVessels.calls k _ _ l0_0 _ _ l0_1 t255 t258 _ ?side1 ?side2 ?side3 ?side4 A10.out).mono ?_
    (case side1 => exact xd ((Kd.C_below HR0_0.out HB.out)))
    (case side2 => exact HC0_0.out)
    (case side3 => exact xd ((Kd.C_below HR0_1.out HB.out)))
    (case side4 => exact HC0_1.out)
    rintro e w24 ⟨v256, v259, rfl, ho0, ho1, hb⟩
    refine ⟨_, rfl, ?_⟩
    have HO257 := Aside0.mk (Kd.R_lower ho0 (below_size (xs HB.out)))
    have HO260 := Aside0.mk (Kd.R_lower ho1 (below_size (xs HB.out)))
    replace BK252 := xk BK252 hb
    replace BK253 := xk BK253 hb
    replace BK270 := xk BK270 hb
    replace HB := xp HB hb
    (try clear hb)
    (try clear hb2)
    (try clear hk)
    (try clear hi)
    (try clear ho0)
    (try clear ho1)
    refine hK.out _ _ ⟨(blk_cell BK252.out 0).trans rfl, (blk_cell BK252.out 1).trans rfl, (blk_cell BK253.out 0).trans rfl, (blk_cell BK253.out 1).trans rfl⟩ (fun hHeld => ?_)
    clear hK K
    refine norm_ (a' := ?_) ?_ ?_
    rotate_left
    ·show Act.put _ (some 23) _ = _
     simp only [Act.put, List.setIfInBounds_toArray, List.set_cons_zero, List.set_cons_succ, i64_w, i32_w]
     rfl
    refine one_ (i := 3) (N := some 25) #[true, true, true, true, false, false, false, false, true, false, false] rfl rfl (one_of HT_.out (by kernel_rfl)) (by decide) (fun K hK => ?_)
    refine goes_ Try.func27 (by kernel_rfl) rfl #[.agg #[.int .i64 a1_0, .int .i64 a1_1]] (by rfl) rfl rfl (by (try simp only [List.map_toArray, List.map_cons, List.map_nil]); first | done | rfl | (simp only [List.length_drop, List.length_take]; rfl)) ?_
    with_reducible refine (laws_toMove.calls a1_0 a1_1 t261 t262 _ A11.out).mono ?_
    rintro e w25 ⟨rfl, hb⟩
    refine ⟨_, rfl, ?_⟩
    replace HO257 := xq HO257 hb
    replace HO260 := xq HO260 hb
    replace BK252 := xk BK252 hb
    replace BK253 := xk BK253 hb
    replace BK270 := xk BK270 hb
    replace HB := xp HB hb
    (try clear hb)
    (try clear hb2)
    (try clear hk)
    (try clear hi)
    obtain ⟨Ao26, co26, eo26⟩ := Kd.R_slice HO257.out
    (first | subst eo26 | (injection eo26 with f1_ f2_ f3_; have f4_ := f1_.symm; have f5_ := f3_.symm; clear f1_ f2_ f3_; subst f4_; subst f5_))
    obtain ⟨Ao27, co27, eo27⟩ := Kd.R_slice HO260.out
    (first | subst eo27 | (injection eo27 with f1_ f2_ f3_; have f4_ := f1_.symm; have f5_ := f3_.symm; clear f1_ f2_ f3_; subst f4_; subst f5_))
    refine hK.out _ _ ⟨(blk_cell BK252.out 0).trans rfl, (blk_cell BK252.out 1).trans rfl, (blk_cell BK253.out 0).trans rfl, (blk_cell BK253.out 1).trans rfl⟩ (fun hHeld => ?_)
    clear hK K
    refine norm_ (a' := ?_) ?_ ?_
    rotate_left
    ·show Act.put _ (some 25) _ = _
     simp only [Act.put, List.setIfInBounds_toArray, List.set_cons_zero, List.set_cons_succ, i64_w, i32_w]
     rfl
    refine one_ (i := 4) (N := some 26) #[true, true, true, true, true, false, false, false, true, false, false] rfl rfl (one_of HT_.out (by kernel_rfl)) (by decide) (fun K hK => ?_)
    refine goes_ Try.func26 (by kernel_rfl) rfl #[.agg #[.slice Ao26 t255.length co26, .slice Ao27 t258.length co27], .agg #[.int .i64 t261, .int .i64 t262]] (by rfl) rfl rfl (by (try simp only [List.map_toArray, List.map_cons, List.map_nil]); first | done | rfl | (simp only [List.length_drop, List.length_take]; rfl)) ?_
    with_reducible refine (spec_MakeMove.calls k _ _ t255 _ _ t258 t261 t262 t263 t266 t269 _ ?side1 ?side2 ?side3 ?side4 A12.out).mono ?_
    (case side1 => exact xd ((Kd.R_reads' HO257.out).2.2))
    (case side2 => exact (Kd.R_reads' HO257.out).2.1)
    (case side3 => exact xd ((Kd.R_reads' HO260.out).2.2))
    (case side4 => exact (Kd.R_reads' HO260.out).2.1)
    rintro e w28 ⟨v264, v267, rfl, ho0, ho1, hb⟩
    refine ⟨_, rfl, ?_⟩
    have HO265 := Aside0.mk (Kd.R_lower (Kd.R_new' (Kd.R_new' ho0 (Kd.R_lt (xr HO257.out))) (Kd.R_lt (xr HO260.out))) (below_size (xs HB.out)))
    have HO268 := Aside0.mk (Kd.R_lower (Kd.R_new' (Kd.R_new' ho1 (Kd.R_lt (xr HO257.out))) (Kd.R_lt (xr HO260.out))) (below_size (xs HB.out)))
    replace HO257 := xt HO257 hb ho0 ho1
    replace HO260 := xt HO260 hb ho0 ho1
    replace BK252 := xk BK252 hb
    replace BK253 := xk BK253 hb
    replace BK270 := xk BK270 hb
    replace HB := xp HB hb
    (try clear hb)
    (try clear hb2)
    (try clear hk)
    (try clear hi)
    (try clear ho0)
    (try clear ho1)
    refine hK.out _ _ ⟨(blk_cell BK252.out 0).trans rfl, (blk_cell BK252.out 1).trans rfl, (blk_cell BK253.out 0).trans rfl, (blk_cell BK253.out 1).trans rfl⟩ (fun hHeld => ?_)
    clear hK K
    refine norm_ (a' := ?_) ?_ ?_
    rotate_left
    ·show Act.put _ (some 26) _ = _
     simp only [Act.put, List.setIfInBounds_toArray, List.set_cons_zero, List.set_cons_succ, i64_w, i32_w]
     rfl
    refine pure_ (i := 5) (N := some 21) (v := ?_) (a' := ?_) #[true, true, true, true, true, true, false, false, true, false, false] rfl rfl (any_of HT_.out (by kernel_rfl)) (fun _ _ _ h => h) (Or.inl ⟨by rfl, ?_⟩) ?_ ?_
    rotate_left
    ·intro w'
     go_simp
     with_reducible rfl
    rotate_left
    ·simp only [Act.put, List.setIfInBounds_toArray, List.set_cons_zero, List.set_cons_succ, i64_w, i32_w]
     rfl
    refine pure_ (i := 6) (N := some 27) (v := ?_) (a' := ?_) #[true, true, true, true, true, true, true, false, true, false, false] rfl rfl (any_of HT_.out (by kernel_rfl)) (fun _ _ _ h => h) (Or.inl ⟨by rfl, ?_⟩) ?_ ?_
    rotate_left
    ·intro w'
     go_simp
     with_reducible rfl
    rotate_left
    ·simp only [Act.put, List.setIfInBounds_toArray, List.set_cons_zero, List.set_cons_succ, i64_w, i32_w]
     rfl
    refine pure_ (i := 7) (N := some 28) (v := ?_) (a' := ?_) #[true, true, true, true, true, true, true, true, true, false, false] rfl rfl (any_of HT_.out (by kernel_rfl)) (fun _ _ _ h => h) (Or.inl ⟨by rfl, ?_⟩) ?_ ?_
    rotate_left
    ·intro w'
     go_simp
     with_reducible rfl
    rotate_left
    ·simp only [Act.put, List.setIfInBounds_toArray, List.set_cons_zero, List.set_cons_succ, i64_w, i32_w]
     rfl
    exact norm_ (by simp only [putAll, Act.put, List.setIfInBounds_toArray, List.set_cons_zero, List.set_cons_succ]) (hCont (.slice Ao26 t255.length co26, .slice Ao27 t258.length co27, v264, v267, gb270) _ ⟨hHeld, (xm HO257 (fun _ hk => ⟨hk.1.1, ⟨hk.1.2, hk.2⟩⟩)), (xm HO260 (fun _ hk => ⟨hk.1.1, ⟨hk.1.2, hk.2⟩⟩)), (xm HO265 (fun _ hk => ⟨hk.1.2, ⟨hk.2, hk.1.1⟩⟩)), (xm HO268 (fun _ hk => ⟨hk.1.2, ⟨hk.2, hk.1.1⟩⟩)), (xb BK252.out), (xb BK253.out), (xb BK270.out), GW270.out, GE270.out, NB252_270.out, NB270_252.out, NB253_270.out, NB270_253.out, (xs HB.out)⟩)
  rintro ⟨v256, v259, v264, v267, gb270⟩ w29 ⟨hS_, h0_, h1_, h2_, h3_, h4_, h5_, h6_, h7_, h8_, h9_, h10_, h11_, h12_, h13_⟩
  have n0_ : Aside0 (Kd.R (Kd.int .i64) 3 w29 w.heap.size (fun k_ => nV k_ v259 ∧ nV k_ v264 ∧ nV k_ v267) v256 t255) := ⟨h0_⟩
  have n1_ : Aside0 (Kd.R (Kd.int .i64) 3 w29 w.heap.size (fun k_ => nV k_ v256 ∧ nV k_ v264 ∧ nV k_ v267) v259 t258) := ⟨h1_⟩
  have n2_ : Aside0 (Kd.R (Kd.int .i64) 3 w29 w.heap.size (fun k_ => nV k_ v256 ∧ nV k_ v259 ∧ nV k_ v267) v264 t263) := ⟨h2_⟩
  have n3_ : Aside0 (Kd.R (Kd.int .i64) 3 w29 w.heap.size (fun k_ => nV k_ v256 ∧ nV k_ v259 ∧ nV k_ v264) v267 t266) := ⟨h3_⟩
  have n4_ : Aside0 (w29.heap[gb252]? = some (.cells #[.slice A0_0 l0_0.length c0_0, .slice A0_1 l0_1.length c0_1] 24 (0, 0))) := ⟨h4_⟩
  have n5_ : Aside0 (w29.heap[gb253]? = some (.cells #[.int .i64 a1_0, .int .i64 a1_1] 39 (0, 0))) := ⟨h5_⟩
  have n6_ : Aside0 (w29.heap[gb270]? = some (.cells #[.slice none 0 0, .slice none 0 0] 26 (0, 0))) := ⟨h6_⟩
  have n7_ : Aside0 (w.heap.size ≤ gb270) := ⟨h7_⟩
  have n8_ : Aside0 (w.heap.size ≤ gb270) := ⟨h8_⟩
  have n9_ : Aside0 (gb252 ≠ gb270) := ⟨h9_⟩
  have n10_ : Aside0 (gb270 ≠ gb252) := ⟨h10_⟩
  have n11_ : Aside0 (gb253 ≠ gb270) := ⟨h11_⟩
  have n12_ : Aside0 (gb270 ≠ gb253) := ⟨h12_⟩
  have n13_ : Aside0 (Below w.heap.size w w29) := ⟨h13_⟩
  clear BK252
  clear BK253
  clear HB
  clear h0_ h1_ h2_ h3_ h4_ h5_ h6_ h7_ h8_ h9_ h10_ h11_ h12_ h13_
  have HO257 := n0_
  have HO260 := n1_
  have HO265 := n2_
  have HO268 := n3_
  have BK252 := n4_
  have BK253 := n5_
  have BK270 := n6_
  have GW270 := n7_
  have GE270 := n8_
  have NB252_270 := n9_
  have NB270_252 := n10_
  have NB253_270 := n11_
  have NB270_253 := n12_
  have HB := n13_
  clear n0_ n1_ n2_ n3_ n4_ n5_ n6_ n7_ n8_ n9_ n10_ n11_ n12_ n13_
  have hHeld : w29.cell? ⟨gb252, 0, none⟩ = some (.slice A0_0 l0_0.length c0_0) ∧ w29.cell? ⟨gb252, 1, none⟩ = some (.slice A0_1 l0_1.length c0_1) ∧ w29.cell? ⟨gb253, 0, none⟩ = some (.int .i64 a1_0) ∧ w29.cell? ⟨gb253, 1, none⟩ = some (.int .i64 a1_1) := hS_
  obtain ⟨Ao30, co30, eo30⟩ := Kd.R_slice HO265.out
  (first | subst eo30 | (injection eo30 with f1_ f2_ f3_; have f4_ := f1_.symm; have f5_ := f3_.symm; clear f1_ f2_ f3_; subst f4_; subst f5_))
  obtain ⟨Ao32, co32, eo32⟩ := Kd.R_slice HO268.out
  (first | subst eo32 | (injection eo32 with f1_ f2_ f3_; have f4_ := f1_.symm; have f5_ := f3_.symm; clear f1_ f2_ f3_; subst f4_; subst f5_))
  refine norm_ (a' := ?_) ?_ ?_
  rotate_left
  ·simp only [putAll, Act.put, List.setIfInBounds_toArray, List.set_cons_zero, List.set_cons_succ]
   rfl
  refine one_ (i := 9) (N := none) #[true, true, true, true, true, true, true, true, true, true, false] rfl rfl (one_of HT_.out (by kernel_rfl)) (by decide) (fun K hK => ?_)
  have hs31 : w29.cell? ⟨gb270, 0, none⟩ = some (.slice none 0 0) := (blk_cell BK270.out 0).trans rfl
  have hfs31 := blk_frozen BK270.out 0
  have hns31_0 := NB252_270.out
  have hns31_1 := NB253_270.out
  have hms31_0 := NB270_252.out
  have hms31_1 := NB270_253.out
  have hs33 : w29.cell? ⟨gb270, 1, none⟩ = some (.slice none 0 0) := (blk_cell BK270.out 1).trans rfl
  have hfs33 := blk_frozen BK270.out 1
  have hns33_0 := NB252_270.out
  have hns33_1 := NB253_270.out
  have hms33_0 := NB270_252.out
  have hms33_1 := NB270_253.out
  refine skip_ (w1 := ?_) (by rfl) rfl ?_ ?_
  rotate_left
  ·go_simp
   rfl
  refine hK.out _ _ ⟨((cell_far (p := ⟨gb270, _, none⟩) NB252_270.out _).trans (((cell_far (p := ⟨gb270, _, none⟩) NB252_270.out _).trans (hHeld.1)))), ((cell_far (p := ⟨gb270, _, none⟩) NB252_270.out _).trans (((cell_far (p := ⟨gb270, _, none⟩) NB252_270.out _).trans (hHeld.2.1)))), ((cell_far (p := ⟨gb270, _, none⟩) NB253_270.out _).trans (((cell_far (p := ⟨gb270, _, none⟩) NB253_270.out _).trans (hHeld.2.2.1)))), ((cell_far (p := ⟨gb270, _, none⟩) NB253_270.out _).trans (((cell_far (p := ⟨gb270, _, none⟩) NB253_270.out _).trans (hHeld.2.2.2))))⟩ (fun hHeld => ?_)
  clear hK K
  refine pure_ (i := 10) (N := some 7) (v := ?_) (a' := ?_) #[true, true, true, true, true, true, true, true, true, true, true] rfl rfl (any_of HT_.out (by kernel_rfl)) (fun _ _ _ h => h) (Or.inl ⟨by rfl, ?_⟩) ?_ ?_
  rotate_left
  ·intro w'
   go_simp
   with_reducible rfl
  rotate_left
  ·simp only [Act.put, List.setIfInBounds_toArray, List.set_cons_zero, List.set_cons_succ, i64_w, i32_w]
   rfl
  refine done_ (done_of HT_.out (by kernel_rfl)) ?_
  have hnb34 := NB252_270.out
  have hnc34 := NB270_252.out
  have hcz35_0 : w29.cell? ⟨gb252, 0, none⟩ = some (.slice A0_0 l0_0.length c0_0) := (blk_cell BK252.out 0).trans rfl
  have hcz35_1 : w29.cell? ⟨gb252, 1, none⟩ = some (.slice A0_1 l0_1.length c0_1) := (blk_cell BK252.out 1).trans rfl
  have hfz35_0 := blk_frozen BK252.out 0
  have hfz35_1 := blk_frozen BK252.out 1
  try go_wp2_with (first | ((with_reducible refine gate_callee (f := 17) rfl ?_); refine goesL_ (some 30) rfl rfl Try.func17 (by kernel_rfl) rfl #[.agg #[.slice A0_0 l0_0.length c0_0, .slice A0_1 l0_1.length c0_1]] rfl (by (try simp only [List.map_toArray, List.map_cons, List.map_nil]); first | done | rfl | (simp only [List.length_drop, List.length_take]; rfl)) ?_; (with_reducible refine (laws_toVessels.calls k _ _ l0_0 _ _ l0_1 t271 t274 _ ?side1 ?side2 ?side3 ?side4 A13.out).mono ?_); (case side1 => exact Kd.C_below HR0_0.out (xs HB.out)); (case side2 => exact HC0_0.out); (case side3 => exact Kd.C_below HR0_1.out (xs HB.out)); (case side4 => exact HC0_1.out); rintro e w36 ⟨v272, v275, rfl, ho0, ho1, hb⟩; refine ⟨_, rfl, ?_⟩; have HO273 := Aside0.mk (Kd.R_lower (Kd.R_new' (Kd.R_new' (Kd.R_new' (Kd.R_new' ho0 (Kd.R_lt (by (with_reducible repeat (first | apply Kd.R_alloc | apply Kd.R_drewN | apply Kd.R_drew)); exact (Kd.R_mono (Kd.R_far (p := ⟨gb270, 1, none⟩) (Kd.R_far (p := ⟨gb270, 0, none⟩) (Kd.R_types HO257.out BK270.out (by decide)) (fun _ hk => hk.2) (.slice Ao30 t263.length co30)) (fun _ hk => hk.2) (.slice Ao32 t266.length co32)) (fun _ h_ => h_.1))))) (Kd.R_lt (by (with_reducible repeat (first | apply Kd.R_alloc | apply Kd.R_drewN | apply Kd.R_drew)); exact (Kd.R_mono (Kd.R_far (p := ⟨gb270, 1, none⟩) (Kd.R_far (p := ⟨gb270, 0, none⟩) (Kd.R_types HO260.out BK270.out (by decide)) (fun _ hk => hk.2) (.slice Ao30 t263.length co30)) (fun _ hk => hk.2) (.slice Ao32 t266.length co32)) (fun _ h_ => h_.1))))) (Kd.R_lt (by (with_reducible repeat (first | apply Kd.R_alloc | apply Kd.R_drewN | apply Kd.R_drew)); exact (Kd.R_mono (Kd.R_far (p := ⟨gb270, 1, none⟩) (Kd.R_far (p := ⟨gb270, 0, none⟩) (Kd.R_types HO265.out BK270.out (by decide)) (fun _ hk => hk.2) (.slice Ao30 t263.length co30)) (fun _ hk => hk.2) (.slice Ao32 t266.length co32)) (fun _ h_ => h_.1))))) (Kd.R_lt (by (with_reducible repeat (first | apply Kd.R_alloc | apply Kd.R_drewN | apply Kd.R_drew)); exact (Kd.R_mono (Kd.R_far (p := ⟨gb270, 1, none⟩) (Kd.R_far (p := ⟨gb270, 0, none⟩) (Kd.R_types HO268.out BK270.out (by decide)) (fun _ hk => hk.2) (.slice Ao30 t263.length co30)) (fun _ hk => hk.2) (.slice Ao32 t266.length co32)) (fun _ h_ => h_.1))))) (below_size (xs HB.out))); have HO276 := Aside0.mk (Kd.R_lower (Kd.R_new' (Kd.R_new' (Kd.R_new' (Kd.R_new' ho1 (Kd.R_lt (by (with_reducible repeat (first | apply Kd.R_alloc | apply Kd.R_drewN | apply Kd.R_drew)); exact (Kd.R_mono (Kd.R_far (p := ⟨gb270, 1, none⟩) (Kd.R_far (p := ⟨gb270, 0, none⟩) (Kd.R_types HO257.out BK270.out (by decide)) (fun _ hk => hk.2) (.slice Ao30 t263.length co30)) (fun _ hk => hk.2) (.slice Ao32 t266.length co32)) (fun _ h_ => h_.1))))) (Kd.R_lt (by (with_reducible repeat (first | apply Kd.R_alloc | apply Kd.R_drewN | apply Kd.R_drew)); exact (Kd.R_mono (Kd.R_far (p := ⟨gb270, 1, none⟩) (Kd.R_far (p := ⟨gb270, 0, none⟩) (Kd.R_types HO260.out BK270.out (by decide)) (fun _ hk => hk.2) (.slice Ao30 t263.length co30)) (fun _ hk => hk.2) (.slice Ao32 t266.length co32)) (fun _ h_ => h_.1))))) (Kd.R_lt (by (with_reducible repeat (first | apply Kd.R_alloc | apply Kd.R_drewN | apply Kd.R_drew)); exact (Kd.R_mono (Kd.R_far (p := ⟨gb270, 1, none⟩) (Kd.R_far (p := ⟨gb270, 0, none⟩) (Kd.R_types HO265.out BK270.out (by decide)) (fun _ hk => hk.2) (.slice Ao30 t263.length co30)) (fun _ hk => hk.2) (.slice Ao32 t266.length co32)) (fun _ h_ => h_.1))))) (Kd.R_lt (by (with_reducible repeat (first | apply Kd.R_alloc | apply Kd.R_drewN | apply Kd.R_drew)); exact (Kd.R_mono (Kd.R_far (p := ⟨gb270, 1, none⟩) (Kd.R_far (p := ⟨gb270, 0, none⟩) (Kd.R_types HO268.out BK270.out (by decide)) (fun _ hk => hk.2) (.slice Ao30 t263.length co30)) (fun _ hk => hk.2) (.slice Ao32 t266.length co32)) (fun _ h_ => h_.1))))) (below_size (xs HB.out))); replace HO257 := Aside0.mk (Kd.R_mono (Kd.R_told (Kd.R_told (Kd.R_old (by (with_reducible repeat (first | apply Kd.R_alloc | apply Kd.R_drewN | apply Kd.R_drew)); exact (Kd.R_mono (Kd.R_far (p := ⟨gb270, 1, none⟩) (Kd.R_far (p := ⟨gb270, 0, none⟩) (Kd.R_types HO257.out BK270.out (by decide)) (fun _ hk => hk.2) (.slice Ao30 t263.length co30)) (fun _ hk => hk.2) (.slice Ao32 t266.length co32)) (fun _ h_ => h_.1))) hb) (Kd.R_base ho0)) (Kd.R_base ho1)) (fun _ h_ => h_.1)); replace HO260 := Aside0.mk (Kd.R_mono (Kd.R_told (Kd.R_told (Kd.R_old (by (with_reducible repeat (first | apply Kd.R_alloc | apply Kd.R_drewN | apply Kd.R_drew)); exact (Kd.R_mono (Kd.R_far (p := ⟨gb270, 1, none⟩) (Kd.R_far (p := ⟨gb270, 0, none⟩) (Kd.R_types HO260.out BK270.out (by decide)) (fun _ hk => hk.2) (.slice Ao30 t263.length co30)) (fun _ hk => hk.2) (.slice Ao32 t266.length co32)) (fun _ h_ => h_.1))) hb) (Kd.R_base ho0)) (Kd.R_base ho1)) (fun _ h_ => h_.1)); replace HO265 := Aside0.mk (Kd.R_mono (Kd.R_told (Kd.R_told (Kd.R_old (by (with_reducible repeat (first | apply Kd.R_alloc | apply Kd.R_drewN | apply Kd.R_drew)); exact (Kd.R_mono (Kd.R_far (p := ⟨gb270, 1, none⟩) (Kd.R_far (p := ⟨gb270, 0, none⟩) (Kd.R_types HO265.out BK270.out (by decide)) (fun _ hk => hk.2) (.slice Ao30 t263.length co30)) (fun _ hk => hk.2) (.slice Ao32 t266.length co32)) (fun _ h_ => h_.1))) hb) (Kd.R_base ho0)) (Kd.R_base ho1)) (fun _ h_ => h_.1)); replace HO268 := Aside0.mk (Kd.R_mono (Kd.R_told (Kd.R_told (Kd.R_old (by (with_reducible repeat (first | apply Kd.R_alloc | apply Kd.R_drewN | apply Kd.R_drew)); exact (Kd.R_mono (Kd.R_far (p := ⟨gb270, 1, none⟩) (Kd.R_far (p := ⟨gb270, 0, none⟩) (Kd.R_types HO268.out BK270.out (by decide)) (fun _ hk => hk.2) (.slice Ao30 t263.length co30)) (fun _ hk => hk.2) (.slice Ao32 t266.length co32)) (fun _ h_ => h_.1))) hb) (Kd.R_base ho0)) (Kd.R_base ho1)) (fun _ h_ => h_.1)); replace BK252 := Aside0.mk (blk_below (g := gb252) (o := .cells #[.slice A0_0 l0_0.length c0_0, .slice A0_1 l0_1.length c0_1] 24 (0, 0)) (xff NB252_270.out NB252_270.out BK252.out) hb); replace BK253 := Aside0.mk (blk_below (g := gb253) (o := .cells #[.int .i64 a1_0, .int .i64 a1_1] 39 (0, 0)) (xff NB253_270.out NB253_270.out BK253.out) hb); replace BK270 := Aside0.mk (blk_below (g := gb270) (o := .cells #[.slice Ao30 t263.length co30, .slice Ao32 t266.length co32] 26 (0, 0)) (by (with_reducible repeat (first | refine blk_drewN ?_ _ | refine blk_drew ?_ | refine blk_alloc ?_ _)); refine blk_put (cs := #[.slice Ao30 t263.length co30, .slice none 0 0]) ?_ 1 _ rfl; (with_reducible repeat (first | refine blk_drewN ?_ _ | refine blk_drew ?_ | refine blk_alloc ?_ _)); refine blk_put (cs := #[.slice none 0 0, .slice none 0 0]) ?_ 0 _ rfl; (with_reducible repeat (first | refine blk_drewN ?_ _ | refine blk_drew ?_ | refine blk_alloc ?_ _)); exact BK270.out) hb); replace HB := xp HB hb; (try clear hb); (try clear hb2); (try clear hk); (try clear hi); (try clear ho0); (try clear ho1)) | ((with_reducible refine gate_dst (N := 8) rfl ?_); refine box_event ?hg (N := 8) ?hd (cs := #[.slice none 0 0, .slice none 0 0]) (t := 26) ?hr ?_; (case hd => rfl); (case hg => rfl); (case hr => first | (go_simp; done) | (go_simp; rfl)); intro gb277 hg w37 hbox hb; replace HO257 := xq HO257 hb; replace HO260 := xq HO260 hb; replace HO265 := xq HO265 hb; replace HO268 := xq HO268 hb; replace HO273 := xq HO273 hb; replace HO276 := xq HO276 hb; have BK277 := Aside0.mk (hbox); have GW277 := xg HB hg; have GE277 := xg HB hg; replace HB := xp HB hb; have NB252_277 := xl BK252 hg; have NB277_252 := xh BK252 hg; replace BK252 := xk BK252 hb; have NB253_277 := xl BK253 hg; have NB277_253 := xh BK253 hg; replace BK253 := xk BK253 hb; have NB270_277 := xl BK270 hg; have NB277_270 := xh BK270 hg; replace BK270 := xk BK270 hb; clear hb hbox hg; obtain ⟨Ao38, co38, eo38⟩ := Kd.R_slice HO273.out; subst eo38; have hnb39 := NB277_252.out; have hnc39 := NB252_277.out; have hnb40 := NB277_253.out; have hnc40 := NB253_277.out; have hnb41 := NB277_270.out; have hnc41 := NB270_277.out; have hcz42_0 : w37.cell? ⟨gb277, 0, none⟩ = some (.slice none 0 0) := (blk_cell BK277.out 0).trans rfl; have hcz42_1 : w37.cell? ⟨gb277, 1, none⟩ = some (.slice none 0 0) := (blk_cell BK277.out 1).trans rfl; have hfz42_0 := blk_frozen BK277.out 0; have hfz42_1 := blk_frozen BK277.out 1; obtain ⟨Ao43, co43, eo43⟩ := Kd.R_slice HO276.out; subst eo43))
  have n0_ : Aside0 (Kd.R (Kd.int .i64) 3 ((w37.setCell ⟨gb277, 0, none⟩ (.slice Ao38 t271.length co38)).setCell ⟨gb277, 1, none⟩ (.slice Ao43 t274.length co43)) w.heap.size (fun k_ => nV k_ v259 ∧ nS k_ Ao30 t263.length co30 ∧ nS k_ Ao32 t266.length co32 ∧ nS k_ Ao38 t271.length co38 ∧ nS k_ Ao43 t274.length co43) v256 t255) := ⟨by (with_reducible repeat (first | apply Kd.R_alloc | apply Kd.R_drewN | apply Kd.R_drew)); exact Kd.R_mono (Kd.R_far (p := ⟨gb277, 1, none⟩) (Kd.R_far (p := ⟨gb277, 0, none⟩) (Kd.R_types HO257.out BK277.out (by decide)) (fun _ hk => hk.2) (.slice Ao38 t271.length co38)) (fun _ hk => hk.2) (.slice Ao43 t274.length co43)) (fun _ hk => ⟨hk.1.1.1.1, ⟨hk.1.1.1.2.1, ⟨hk.1.1.1.2.2, ⟨hk.1.1.2, hk.1.2⟩⟩⟩⟩)⟩
  have n1_ : Aside0 (Kd.R (Kd.int .i64) 3 ((w37.setCell ⟨gb277, 0, none⟩ (.slice Ao38 t271.length co38)).setCell ⟨gb277, 1, none⟩ (.slice Ao43 t274.length co43)) w.heap.size (fun k_ => nV k_ v256 ∧ nS k_ Ao30 t263.length co30 ∧ nS k_ Ao32 t266.length co32 ∧ nS k_ Ao38 t271.length co38 ∧ nS k_ Ao43 t274.length co43) v259 t258) := ⟨by (with_reducible repeat (first | apply Kd.R_alloc | apply Kd.R_drewN | apply Kd.R_drew)); exact Kd.R_mono (Kd.R_far (p := ⟨gb277, 1, none⟩) (Kd.R_far (p := ⟨gb277, 0, none⟩) (Kd.R_types HO260.out BK277.out (by decide)) (fun _ hk => hk.2) (.slice Ao38 t271.length co38)) (fun _ hk => hk.2) (.slice Ao43 t274.length co43)) (fun _ hk => ⟨hk.1.1.1.1, ⟨hk.1.1.1.2.1, ⟨hk.1.1.1.2.2, ⟨hk.1.1.2, hk.1.2⟩⟩⟩⟩)⟩
  have n2_ : Aside0 (Kd.R (Kd.int .i64) 3 ((w37.setCell ⟨gb277, 0, none⟩ (.slice Ao38 t271.length co38)).setCell ⟨gb277, 1, none⟩ (.slice Ao43 t274.length co43)) w.heap.size (fun k_ => nV k_ v256 ∧ nV k_ v259 ∧ nS k_ Ao32 t266.length co32 ∧ nS k_ Ao38 t271.length co38 ∧ nS k_ Ao43 t274.length co43) (.slice Ao30 t263.length co30) t263) := ⟨by (with_reducible repeat (first | apply Kd.R_alloc | apply Kd.R_drewN | apply Kd.R_drew)); exact Kd.R_mono (Kd.R_far (p := ⟨gb277, 1, none⟩) (Kd.R_far (p := ⟨gb277, 0, none⟩) (Kd.R_types HO265.out BK277.out (by decide)) (fun _ hk => hk.2) (.slice Ao38 t271.length co38)) (fun _ hk => hk.2) (.slice Ao43 t274.length co43)) (fun _ hk => ⟨hk.1.1.1.1, ⟨hk.1.1.1.2.1, ⟨hk.1.1.1.2.2, ⟨hk.1.1.2, hk.1.2⟩⟩⟩⟩)⟩
  have n3_ : Aside0 (Kd.R (Kd.int .i64) 3 ((w37.setCell ⟨gb277, 0, none⟩ (.slice Ao38 t271.length co38)).setCell ⟨gb277, 1, none⟩ (.slice Ao43 t274.length co43)) w.heap.size (fun k_ => nV k_ v256 ∧ nV k_ v259 ∧ nS k_ Ao30 t263.length co30 ∧ nS k_ Ao38 t271.length co38 ∧ nS k_ Ao43 t274.length co43) (.slice Ao32 t266.length co32) t266) := ⟨by (with_reducible repeat (first | apply Kd.R_alloc | apply Kd.R_drewN | apply Kd.R_drew)); exact Kd.R_mono (Kd.R_far (p := ⟨gb277, 1, none⟩) (Kd.R_far (p := ⟨gb277, 0, none⟩) (Kd.R_types HO268.out BK277.out (by decide)) (fun _ hk => hk.2) (.slice Ao38 t271.length co38)) (fun _ hk => hk.2) (.slice Ao43 t274.length co43)) (fun _ hk => ⟨hk.1.1.1.1, ⟨hk.1.1.1.2.1, ⟨hk.1.1.1.2.2, ⟨hk.1.1.2, hk.1.2⟩⟩⟩⟩)⟩
  have n4_ : Aside0 (Kd.R (Kd.int .i64) 3 ((w37.setCell ⟨gb277, 0, none⟩ (.slice Ao38 t271.length co38)).setCell ⟨gb277, 1, none⟩ (.slice Ao43 t274.length co43)) w.heap.size (fun k_ => nV k_ v256 ∧ nV k_ v259 ∧ nS k_ Ao30 t263.length co30 ∧ nS k_ Ao32 t266.length co32 ∧ nS k_ Ao43 t274.length co43) (.slice Ao38 t271.length co38) t271) := ⟨by (with_reducible repeat (first | apply Kd.R_alloc | apply Kd.R_drewN | apply Kd.R_drew)); exact Kd.R_mono (Kd.R_far (p := ⟨gb277, 1, none⟩) (Kd.R_far (p := ⟨gb277, 0, none⟩) (Kd.R_types HO273.out BK277.out (by decide)) (fun _ hk => hk.2) (.slice Ao38 t271.length co38)) (fun _ hk => hk.2) (.slice Ao43 t274.length co43)) (fun _ hk => ⟨hk.1.1.1.1.2, ⟨hk.1.1.1.2, ⟨hk.1.1.2, ⟨hk.1.2, hk.1.1.1.1.1⟩⟩⟩⟩)⟩
  have n5_ : Aside0 (Kd.R (Kd.int .i64) 3 ((w37.setCell ⟨gb277, 0, none⟩ (.slice Ao38 t271.length co38)).setCell ⟨gb277, 1, none⟩ (.slice Ao43 t274.length co43)) w.heap.size (fun k_ => nV k_ v256 ∧ nV k_ v259 ∧ nS k_ Ao30 t263.length co30 ∧ nS k_ Ao32 t266.length co32 ∧ nS k_ Ao38 t271.length co38) (.slice Ao43 t274.length co43) t274) := ⟨by (with_reducible repeat (first | apply Kd.R_alloc | apply Kd.R_drewN | apply Kd.R_drew)); exact Kd.R_mono (Kd.R_far (p := ⟨gb277, 1, none⟩) (Kd.R_far (p := ⟨gb277, 0, none⟩) (Kd.R_types HO276.out BK277.out (by decide)) (fun _ hk => hk.2) (.slice Ao38 t271.length co38)) (fun _ hk => hk.2) (.slice Ao43 t274.length co43)) (fun _ hk => ⟨hk.1.1.1.1.2, ⟨hk.1.1.1.2, ⟨hk.1.1.2, ⟨hk.1.2, hk.1.1.1.1.1⟩⟩⟩⟩)⟩
  have n6_ : Aside0 (((w37.setCell ⟨gb277, 0, none⟩ (.slice Ao38 t271.length co38)).setCell ⟨gb277, 1, none⟩ (.slice Ao43 t274.length co43)).heap[gb252]? = some (.cells #[.slice A0_0 l0_0.length c0_0, .slice A0_1 l0_1.length c0_1] 24 (0, 0))) := ⟨xff NB252_277.out NB252_277.out BK252.out⟩
  have n7_ : Aside0 (((w37.setCell ⟨gb277, 0, none⟩ (.slice Ao38 t271.length co38)).setCell ⟨gb277, 1, none⟩ (.slice Ao43 t274.length co43)).heap[gb253]? = some (.cells #[.int .i64 a1_0, .int .i64 a1_1] 39 (0, 0))) := ⟨xff NB253_277.out NB253_277.out BK253.out⟩
  have n8_ : Aside0 (((w37.setCell ⟨gb277, 0, none⟩ (.slice Ao38 t271.length co38)).setCell ⟨gb277, 1, none⟩ (.slice Ao43 t274.length co43)).heap[gb270]? = some (.cells #[.slice Ao30 t263.length co30, .slice Ao32 t266.length co32] 26 (0, 0))) := ⟨xff NB270_277.out NB270_277.out BK270.out⟩
  have n9_ : Aside0 (((w37.setCell ⟨gb277, 0, none⟩ (.slice Ao38 t271.length co38)).setCell ⟨gb277, 1, none⟩ (.slice Ao43 t274.length co43)).heap[gb277]? = some (.cells #[.slice Ao38 t271.length co38, .slice Ao43 t274.length co43] 26 (0, 0))) := ⟨by (with_reducible repeat (first | refine blk_drewN ?_ _ | refine blk_drew ?_ | refine blk_alloc ?_ _)); refine blk_put (cs := #[.slice Ao38 t271.length co38, .slice none 0 0]) ?_ 1 _ rfl; (with_reducible repeat (first | refine blk_drewN ?_ _ | refine blk_drew ?_ | refine blk_alloc ?_ _)); refine blk_put (cs := #[.slice none 0 0, .slice none 0 0]) ?_ 0 _ rfl; (with_reducible repeat (first | refine blk_drewN ?_ _ | refine blk_drew ?_ | refine blk_alloc ?_ _)); exact BK277.out⟩
  have n10_ : Aside0 (Below w.heap.size w ((w37.setCell ⟨gb277, 0, none⟩ (.slice Ao38 t271.length co38)).setCell ⟨gb277, 1, none⟩ (.slice Ao43 t274.length co43))) := ⟨xs HB.out⟩
  (try clear HO257)
  (try clear HO260)
  (try clear HO265)
  (try clear HO268)
  (try clear HO273)
  (try clear HO276)
  (try clear BK252)
  (try clear BK253)
  (try clear BK270)
  (try clear BK277)
  (try clear HB)
  generalize ((w37.setCell ⟨gb277, 0, none⟩ (.slice Ao38 t271.length co38)).setCell ⟨gb277, 1, none⟩ (.slice Ao43 t274.length co43)) = w44 at n0_ n1_ n2_ n3_ n4_ n5_ n6_ n7_ n8_ n9_ n10_ ⊢
  have HO257 := n0_
  have HO260 := n1_
  have HO265 := n2_
  have HO268 := n3_
  have HO273 := n4_
  have HO276 := n5_
  have BK252 := n6_
  have BK253 := n7_
  have BK270 := n8_
  have BK277 := n9_
  have HB := n10_
  clear n0_ n1_ n2_ n3_ n4_ n5_ n6_ n7_ n8_ n9_ n10_
  replace HO257 := xw HO257
  replace HO260 := xw HO260
  replace HO265 := xw HO265
  replace HO268 := xw HO268
  replace HO273 := xw HO273
  replace HO276 := xw HO276
  replace BK252 := xv BK252
  replace BK253 := xv BK253
  replace BK270 := xv BK270
  replace BK277 := xv BK277
  replace HB := Aside0.mk (below_drew1 HB.out)
  refine start_ (n := 10) (S := fun w' => w'.cell? ⟨gb277, 0, none⟩ = some (.slice Ao38 t271.length co38) ∧ w'.cell? ⟨gb277, 1, none⟩ = some (.slice Ao43 t274.length co43) ∧ w'.cell? ⟨gb253, 0, none⟩ = some (.int .i64 a1_0) ∧ w'.cell? ⟨gb253, 1, none⟩ = some (.int .i64 a1_1)) (ds := []) #[false, false, false, false, false, false, false, false, false, false] (by kernel_rfl) rfl rfl ⟨(blk_cell BK277.out 0).trans rfl, (blk_cell BK277.out 1).trans rfl, (blk_cell BK253.out 0).trans rfl, (blk_cell BK253.out 1).trans rfl⟩ (fun hHeld => ?_); refine with_tabW laws_FnExactMakeMove.tab7 laws_FnExactMakeMove.bits7 (fun HT_ HW_ => ?_)
  generalize w44.drew = w45 at HO257 HO260 HO265 HO268 HO273 HO276 BK252 BK253 BK270 BK277 HB hHeld ⊢
  refine take_ (i := 0) (N := some 32) (v := ?_) (a' := ?_) #[true, false, false, false, false, false, false, false, false, false] rfl rfl (take_ofW HT_.out HW_.out (by kernel_rfl)) (fun _ _ _ h => h) (Or.inl ⟨by rfl, ?_⟩) hHeld ?_ ?_
  rotate_left
  ·rintro w' ⟨s0, s1, s2, s3⟩
   go_simp
   with_reducible rfl
  rotate_left
  ·simp only [Act.put, List.setIfInBounds_toArray, List.set_cons_zero, List.set_cons_succ, i64_w, i32_w]
   rfl
  refine take_ (i := 1) (N := some 33) (v := ?_) (a' := ?_) #[true, true, false, false, false, false, false, false, false, false] rfl rfl (take_ofW HT_.out HW_.out (by kernel_rfl)) (fun _ _ _ h => h) (Or.inl ⟨by rfl, ?_⟩) hHeld ?_ ?_
  rotate_left
  ·rintro w' ⟨s0, s1, s2, s3⟩
   go_simp
   with_reducible rfl
  rotate_left
  ·simp only [Act.put, List.setIfInBounds_toArray, List.set_cons_zero, List.set_cons_succ, i64_w, i32_w]
   rfl
  refine join_ (σ := Value × Value × Nat) 2 #[true, true, true, true, true, true, true, true, false, false] (fun s_ => [(34, .agg #[.int .i64 t278, .int .i64 t279]), (35, .tuple #[.agg #[s_.1, s_.2.1], .bool t286]), (9, .pointer (some ⟨s_.2.2, 0, none⟩)), (31, .tuple #[.agg #[s_.1, s_.2.1], .bool t286]), (36, .agg #[s_.1, s_.2.1]), (37, .bool t286)]) (fun s_ w' => (w'.cell? ⟨gb277, 0, none⟩ = some (.slice Ao38 t271.length co38) ∧ w'.cell? ⟨gb277, 1, none⟩ = some (.slice Ao43 t274.length co43) ∧ w'.cell? ⟨gb253, 0, none⟩ = some (.int .i64 a1_0) ∧ w'.cell? ⟨gb253, 1, none⟩ = some (.int .i64 a1_1)) ∧ (Kd.R (Kd.int .i64) 3 w' w.heap.size (fun k_ => nV k_ v259 ∧ nS k_ Ao30 t263.length co30 ∧ nS k_ Ao32 t266.length co32 ∧ nS k_ Ao38 t271.length co38 ∧ nS k_ Ao43 t274.length co43 ∧ some k_ ≠ (s_.1 : Value).ownBlock ∧ some k_ ≠ (s_.2.1 : Value).ownBlock) v256 t255) ∧ (Kd.R (Kd.int .i64) 3 w' w.heap.size (fun k_ => nV k_ v256 ∧ nS k_ Ao30 t263.length co30 ∧ nS k_ Ao32 t266.length co32 ∧ nS k_ Ao38 t271.length co38 ∧ nS k_ Ao43 t274.length co43 ∧ some k_ ≠ (s_.1 : Value).ownBlock ∧ some k_ ≠ (s_.2.1 : Value).ownBlock) v259 t258) ∧ (Kd.R (Kd.int .i64) 3 w' w.heap.size (fun k_ => nV k_ v256 ∧ nV k_ v259 ∧ nS k_ Ao32 t266.length co32 ∧ nS k_ Ao38 t271.length co38 ∧ nS k_ Ao43 t274.length co43 ∧ some k_ ≠ (s_.1 : Value).ownBlock ∧ some k_ ≠ (s_.2.1 : Value).ownBlock) (.slice Ao30 t263.length co30) t263) ∧ (Kd.R (Kd.int .i64) 3 w' w.heap.size (fun k_ => nV k_ v256 ∧ nV k_ v259 ∧ nS k_ Ao30 t263.length co30 ∧ nS k_ Ao38 t271.length co38 ∧ nS k_ Ao43 t274.length co43 ∧ some k_ ≠ (s_.1 : Value).ownBlock ∧ some k_ ≠ (s_.2.1 : Value).ownBlock) (.slice Ao32 t266.length co32) t266) ∧ (Kd.R (Kd.int .i64) 3 w' w.heap.size (fun k_ => nV k_ v256 ∧ nV k_ v259 ∧ nS k_ Ao30 t263.length co30 ∧ nS k_ Ao32 t266.length co32 ∧ nS k_ Ao43 t274.length co43 ∧ some k_ ≠ (s_.1 : Value).ownBlock ∧ some k_ ≠ (s_.2.1 : Value).ownBlock) (.slice Ao38 t271.length co38) t271) ∧ (Kd.R (Kd.int .i64) 3 w' w.heap.size (fun k_ => nV k_ v256 ∧ nV k_ v259 ∧ nS k_ Ao30 t263.length co30 ∧ nS k_ Ao32 t266.length co32 ∧ nS k_ Ao38 t271.length co38 ∧ some k_ ≠ (s_.1 : Value).ownBlock ∧ some k_ ≠ (s_.2.1 : Value).ownBlock) (.slice Ao43 t274.length co43) t274) ∧ (Kd.R (Kd.int .i64) 3 w' w.heap.size (fun k_ => nV k_ v256 ∧ nV k_ v259 ∧ nS k_ Ao30 t263.length co30 ∧ nS k_ Ao32 t266.length co32 ∧ nS k_ Ao38 t271.length co38 ∧ nS k_ Ao43 t274.length co43 ∧ some k_ ≠ (s_.2.1 : Value).ownBlock) s_.1 t280) ∧ (Kd.R (Kd.int .i64) 3 w' w.heap.size (fun k_ => nV k_ v256 ∧ nV k_ v259 ∧ nS k_ Ao30 t263.length co30 ∧ nS k_ Ao32 t266.length co32 ∧ nS k_ Ao38 t271.length co38 ∧ nS k_ Ao43 t274.length co43 ∧ some k_ ≠ (s_.1 : Value).ownBlock) s_.2.1 t283) ∧ (w'.heap[gb252]? = some (.cells #[.slice A0_0 l0_0.length c0_0, .slice A0_1 l0_1.length c0_1] 24 (0, 0))) ∧ (w'.heap[gb253]? = some (.cells #[.int .i64 a1_0, .int .i64 a1_1] 39 (0, 0))) ∧ (w'.heap[gb270]? = some (.cells #[.slice Ao30 t263.length co30, .slice Ao32 t266.length co32] 26 (0, 0))) ∧ (w'.heap[gb277]? = some (.cells #[.slice Ao38 t271.length co38, .slice Ao43 t274.length co43] 26 (0, 0))) ∧ (w'.heap[s_.2.2]? = some (.cells #[.slice none 0 0, .slice none 0 0] 26 (0, 0))) ∧ (w.heap.size ≤ s_.2.2) ∧ (w.heap.size ≤ s_.2.2) ∧ (gb252 ≠ s_.2.2) ∧ (s_.2.2 ≠ gb252) ∧ (gb253 ≠ s_.2.2) ∧ (s_.2.2 ≠ gb253) ∧ (gb270 ≠ s_.2.2) ∧ (s_.2.2 ≠ gb270) ∧ (gb277 ≠ s_.2.2) ∧ (s_.2.2 ≠ gb277) ∧ (Below w.heap.size w w')) ?_ ?_
  rotate_left
  ·intro hCont
   refine two_ (i := 2) (j := 7) (Ni := some 34) (Nj := some 9) #[true, true, true, false, false, false, false, false, false, false] #[true, true, false, false, false, false, false, true, false, false] rfl rfl rfl rfl (two_of HT_.out (by kernel_rfl)) (by decide) (by decide) (fun K hK => ?_) (fun K hK => ?_)
   ·skip
    refine goes_ Try.func27 (by kernel_rfl) rfl #[.agg #[.int .i64 a1_0, .int .i64 a1_1]] (by rfl) rfl rfl (by (try simp only [List.map_toArray, List.map_cons, List.map_nil]); first | done | rfl | (simp only [List.length_drop, List.length_take]; rfl)) ?_
    with_reducible refine (laws_toMove.calls a1_0 a1_1 t278 t279 _ A14.out).mono ?_
    rintro e w46 ⟨rfl, hb⟩
    refine ⟨_, rfl, ?_⟩
    replace HO257 := xq HO257 hb
    replace HO260 := xq HO260 hb
    replace HO265 := xq HO265 hb
    replace HO268 := xq HO268 hb
    replace HO273 := xq HO273 hb
    replace HO276 := xq HO276 hb
    replace BK252 := xk BK252 hb
    replace BK253 := xk BK253 hb
    replace BK270 := xk BK270 hb
    replace BK277 := xk BK277 hb
    replace HB := xp HB hb
    (try clear hb)
    (try clear hb2)
    (try clear hk)
    (try clear hi)
    refine hK.out _ _ ⟨(blk_cell BK277.out 0).trans rfl, (blk_cell BK277.out 1).trans rfl, (blk_cell BK253.out 0).trans rfl, (blk_cell BK253.out 1).trans rfl⟩ (fun hHeld => ?_)
    clear hK K
    refine norm_ (a' := ?_) ?_ ?_
    rotate_left
    ·show Act.put _ (some 34) _ = _
     simp only [Act.put, List.setIfInBounds_toArray, List.set_cons_zero, List.set_cons_succ, i64_w, i32_w]
     rfl
    refine two_ (i := 3) (j := 7) (Ni := some 35) (Nj := some 9) #[true, true, true, true, false, false, false, false, false, false] #[true, true, true, false, false, false, false, true, false, false] rfl rfl rfl rfl (two_of HT_.out (by kernel_rfl)) (by decide) (by decide) (fun K hK => ?_) (fun K hK => ?_)
    ·skip
     refine goes_ Try.func28 (by kernel_rfl) rfl #[.agg #[.slice Ao38 t271.length co38, .slice Ao43 t274.length co43], .agg #[.int .i64 t278, .int .i64 t279]] (by rfl) rfl rfl (by (try simp only [List.map_toArray, List.map_cons, List.map_nil]); first | done | rfl | (simp only [List.length_drop, List.length_take]; rfl)) ?_
     with_reducible refine (impl_MakeMove.calls k _ _ t271 _ _ t274 t278 t279 t280 t283 t286 _ ?side1 ?side2 ?side3 ?side4 A15.out).mono ?_
     (case side1 => exact xd ((Kd.R_reads' HO273.out).2.2))
     (case side2 => exact (Kd.R_reads' HO273.out).2.1)
     (case side3 => exact xd ((Kd.R_reads' HO276.out).2.2))
     (case side4 => exact (Kd.R_reads' HO276.out).2.1)
     rintro e w47 ⟨v281, v284, rfl, ho0, ho1, hb⟩
     refine ⟨_, rfl, ?_⟩
     have HO282 := Aside0.mk (Kd.R_lower (Kd.R_new' (Kd.R_new' (Kd.R_new' (Kd.R_new' (Kd.R_new' (Kd.R_new' ho0 (Kd.R_lt (xr HO257.out))) (Kd.R_lt (xr HO260.out))) (Kd.R_lt (xr HO265.out))) (Kd.R_lt (xr HO268.out))) (Kd.R_lt (xr HO273.out))) (Kd.R_lt (xr HO276.out))) (below_size (xs HB.out)))
     have HO285 := Aside0.mk (Kd.R_lower (Kd.R_new' (Kd.R_new' (Kd.R_new' (Kd.R_new' (Kd.R_new' (Kd.R_new' ho1 (Kd.R_lt (xr HO257.out))) (Kd.R_lt (xr HO260.out))) (Kd.R_lt (xr HO265.out))) (Kd.R_lt (xr HO268.out))) (Kd.R_lt (xr HO273.out))) (Kd.R_lt (xr HO276.out))) (below_size (xs HB.out)))
     replace HO257 := xt HO257 hb ho0 ho1
     replace HO260 := xt HO260 hb ho0 ho1
     replace HO265 := xt HO265 hb ho0 ho1
     replace HO268 := xt HO268 hb ho0 ho1
     replace HO273 := xt HO273 hb ho0 ho1
     replace HO276 := xt HO276 hb ho0 ho1
     replace BK252 := xk BK252 hb
     replace BK253 := xk BK253 hb
     replace BK270 := xk BK270 hb
     replace BK277 := xk BK277 hb
     replace HB := xp HB hb
     (try clear hb)
     (try clear hb2)
     (try clear hk)
     (try clear hi)
     (try clear ho0)
     (try clear ho1)
     refine hK.out _ _ ⟨(blk_cell BK277.out 0).trans rfl, (blk_cell BK277.out 1).trans rfl, (blk_cell BK253.out 0).trans rfl, (blk_cell BK253.out 1).trans rfl⟩ (fun hHeld => ?_)
     clear hK K
     refine norm_ (a' := ?_) ?_ ?_
     rotate_left
     ·show Act.put _ (some 35) _ = _
      simp only [Act.put, List.setIfInBounds_toArray, List.set_cons_zero, List.set_cons_succ, i64_w, i32_w]
      rfl
     refine pure_ (i := 4) (N := some 31) (v := ?_) (a' := ?_) #[true, true, true, true, true, false, false, false, false, false] rfl rfl (any_of HT_.out (by kernel_rfl)) (fun _ _ _ h => h) (Or.inl ⟨by rfl, ?_⟩) ?_ ?_
     rotate_left
     ·intro w'
      go_simp
      with_reducible rfl
     rotate_left
     ·simp only [Act.put, List.setIfInBounds_toArray, List.set_cons_zero, List.set_cons_succ, i64_w, i32_w]
      rfl
     refine pure_ (i := 5) (N := some 36) (v := ?_) (a' := ?_) #[true, true, true, true, true, true, false, false, false, false] rfl rfl (any_of HT_.out (by kernel_rfl)) (fun _ _ _ h => h) (Or.inl ⟨by rfl, ?_⟩) ?_ ?_
     rotate_left
     ·intro w'
      go_simp
      with_reducible rfl
     rotate_left
     ·simp only [Act.put, List.setIfInBounds_toArray, List.set_cons_zero, List.set_cons_succ, i64_w, i32_w]
      rfl
     refine pure_ (i := 6) (N := some 37) (v := ?_) (a' := ?_) #[true, true, true, true, true, true, true, false, false, false] rfl rfl (any_of HT_.out (by kernel_rfl)) (fun _ _ _ h => h) (Or.inl ⟨by rfl, ?_⟩) ?_ ?_
     rotate_left
     ·intro w'
      go_simp
      with_reducible rfl
     rotate_left
     ·simp only [Act.put, List.setIfInBounds_toArray, List.set_cons_zero, List.set_cons_succ, i64_w, i32_w]
      rfl
     refine one_ (i := 7) (N := some 9) #[true, true, true, true, true, true, true, true, false, false] rfl rfl (one_of HT_.out (by kernel_rfl)) (by decide) (fun K hK => ?_)
     refine box_step ?hg (N := 9) ?hd (cs := #[.slice none 0 0, .slice none 0 0]) (t := 26) ?hr ?_; (case hd => rfl); (case hg => rfl); (case hr => first | (go_simp; done) | (go_simp; rfl))
     intro gb287 hg w48 hbox hb
     replace HO257 := xq HO257 hb
     replace HO260 := xq HO260 hb
     replace HO265 := xq HO265 hb
     replace HO268 := xq HO268 hb
     replace HO273 := xq HO273 hb
     replace HO276 := xq HO276 hb
     replace HO282 := xq HO282 hb
     replace HO285 := xq HO285 hb
     have BK287 := Aside0.mk (hbox)
     have GW287 := xg HB hg
     have GE287 := xg HB hg
     replace HB := xp HB hb
     have NB252_287 := xl BK252 hg
     have NB287_252 := xh BK252 hg
     replace BK252 := xk BK252 hb
     have NB253_287 := xl BK253 hg
     have NB287_253 := xh BK253 hg
     replace BK253 := xk BK253 hb
     have NB270_287 := xl BK270 hg
     have NB287_270 := xh BK270 hg
     replace BK270 := xk BK270 hb
     have NB277_287 := xl BK277 hg
     have NB287_277 := xh BK277 hg
     replace BK277 := xk BK277 hb
     clear hb hbox hg
     refine hK.out _ _ ⟨(blk_cell BK277.out 0).trans rfl, (blk_cell BK277.out 1).trans rfl, (blk_cell BK253.out 0).trans rfl, (blk_cell BK253.out 1).trans rfl⟩ (fun hHeld => ?_)
     clear hK K
     refine norm_ (a' := ?_) ?_ ?_
     rotate_left
     ·show Act.put _ (some 9) _ = _
      simp only [Act.put, List.setIfInBounds_toArray, List.set_cons_zero, List.set_cons_succ, i64_w, i32_w]
      rfl
     exact norm_ (by simp only [putAll, Act.put, List.setIfInBounds_toArray, List.set_cons_zero, List.set_cons_succ]) (hCont (v281, v284, gb287) _ ⟨hHeld, (xm HO257 (fun _ hk => ⟨hk.1.1.1, ⟨hk.1.1.2.1, ⟨hk.1.1.2.2.1, ⟨hk.1.1.2.2.2.1, ⟨hk.1.1.2.2.2.2, ⟨hk.1.2, hk.2⟩⟩⟩⟩⟩⟩)), (xm HO260 (fun _ hk => ⟨hk.1.1.1, ⟨hk.1.1.2.1, ⟨hk.1.1.2.2.1, ⟨hk.1.1.2.2.2.1, ⟨hk.1.1.2.2.2.2, ⟨hk.1.2, hk.2⟩⟩⟩⟩⟩⟩)), (xm HO265 (fun _ hk => ⟨hk.1.1.1, ⟨hk.1.1.2.1, ⟨hk.1.1.2.2.1, ⟨hk.1.1.2.2.2.1, ⟨hk.1.1.2.2.2.2, ⟨hk.1.2, hk.2⟩⟩⟩⟩⟩⟩)), (xm HO268 (fun _ hk => ⟨hk.1.1.1, ⟨hk.1.1.2.1, ⟨hk.1.1.2.2.1, ⟨hk.1.1.2.2.2.1, ⟨hk.1.1.2.2.2.2, ⟨hk.1.2, hk.2⟩⟩⟩⟩⟩⟩)), (xm HO273 (fun _ hk => ⟨hk.1.1.1, ⟨hk.1.1.2.1, ⟨hk.1.1.2.2.1, ⟨hk.1.1.2.2.2.1, ⟨hk.1.1.2.2.2.2, ⟨hk.1.2, hk.2⟩⟩⟩⟩⟩⟩)), (xm HO276 (fun _ hk => ⟨hk.1.1.1, ⟨hk.1.1.2.1, ⟨hk.1.1.2.2.1, ⟨hk.1.1.2.2.2.1, ⟨hk.1.1.2.2.2.2, ⟨hk.1.2, hk.2⟩⟩⟩⟩⟩⟩)), (xm HO282 (fun _ hk => ⟨hk.1.1.1.1.1.2, ⟨hk.1.1.1.1.2, ⟨hk.1.1.1.2, ⟨hk.1.1.2, ⟨hk.1.2, ⟨hk.2, hk.1.1.1.1.1.1⟩⟩⟩⟩⟩⟩)), (xm HO285 (fun _ hk => ⟨hk.1.1.1.1.1.2, ⟨hk.1.1.1.1.2, ⟨hk.1.1.1.2, ⟨hk.1.1.2, ⟨hk.1.2, ⟨hk.2, hk.1.1.1.1.1.1⟩⟩⟩⟩⟩⟩)), (xb BK252.out), (xb BK253.out), (xb BK270.out), (xb BK277.out), (xb BK287.out), GW287.out, GE287.out, NB252_287.out, NB287_252.out, NB253_287.out, NB287_253.out, NB270_287.out, NB287_270.out, NB277_287.out, NB287_277.out, (xs HB.out)⟩)
    ·skip
     refine box_step ?hg (N := 9) ?hd (cs := #[.slice none 0 0, .slice none 0 0]) (t := 26) ?hr ?_; (case hd => rfl); (case hg => rfl); (case hr => first | (go_simp; done) | (go_simp; rfl))
     intro gb287 hg w47 hbox hb
     replace HO257 := xq HO257 hb
     replace HO260 := xq HO260 hb
     replace HO265 := xq HO265 hb
     replace HO268 := xq HO268 hb
     replace HO273 := xq HO273 hb
     replace HO276 := xq HO276 hb
     have BK287 := Aside0.mk (hbox)
     have GW287 := xg HB hg
     have GE287 := xg HB hg
     replace HB := xp HB hb
     have NB252_287 := xl BK252 hg
     have NB287_252 := xh BK252 hg
     replace BK252 := xk BK252 hb
     have NB253_287 := xl BK253 hg
     have NB287_253 := xh BK253 hg
     replace BK253 := xk BK253 hb
     have NB270_287 := xl BK270 hg
     have NB287_270 := xh BK270 hg
     replace BK270 := xk BK270 hb
     have NB277_287 := xl BK277 hg
     have NB287_277 := xh BK277 hg
     replace BK277 := xk BK277 hb
     clear hb hbox hg
     refine hK.out _ _ ⟨(blk_cell BK277.out 0).trans rfl, (blk_cell BK277.out 1).trans rfl, (blk_cell BK253.out 0).trans rfl, (blk_cell BK253.out 1).trans rfl⟩ (fun hHeld => ?_)
     clear hK K
     refine norm_ (a' := ?_) ?_ ?_
     rotate_left
     ·show Act.put _ (some 9) _ = _
      simp only [Act.put, List.setIfInBounds_toArray, List.set_cons_zero, List.set_cons_succ, i64_w, i32_w]
      rfl
     refine one_ (i := 3) (N := some 35) #[true, true, true, true, false, false, false, true, false, false] rfl rfl (one_of HT_.out (by kernel_rfl)) (by decide) (fun K hK => ?_)
     refine goes_ Try.func28 (by kernel_rfl) rfl #[.agg #[.slice Ao38 t271.length co38, .slice Ao43 t274.length co43], .agg #[.int .i64 t278, .int .i64 t279]] (by rfl) rfl rfl (by (try simp only [List.map_toArray, List.map_cons, List.map_nil]); first | done | rfl | (simp only [List.length_drop, List.length_take]; rfl)) ?_
     with_reducible refine (impl_MakeMove.calls k _ _ t271 _ _ t274 t278 t279 t280 t283 t286 _ ?side1 ?side2 ?side3 ?side4 A15.out).mono ?_
     (case side1 => exact xd ((Kd.R_reads' HO273.out).2.2))
     (case side2 => exact (Kd.R_reads' HO273.out).2.1)
     (case side3 => exact xd ((Kd.R_reads' HO276.out).2.2))
     (case side4 => exact (Kd.R_reads' HO276.out).2.1)
     rintro e w48 ⟨v281, v284, rfl, ho0, ho1, hb⟩
     refine ⟨_, rfl, ?_⟩
     have HO282 := Aside0.mk (Kd.R_lower (Kd.R_new' (Kd.R_new' (Kd.R_new' (Kd.R_new' (Kd.R_new' (Kd.R_new' ho0 (Kd.R_lt (xr HO257.out))) (Kd.R_lt (xr HO260.out))) (Kd.R_lt (xr HO265.out))) (Kd.R_lt (xr HO268.out))) (Kd.R_lt (xr HO273.out))) (Kd.R_lt (xr HO276.out))) (below_size (xs HB.out)))
     have HO285 := Aside0.mk (Kd.R_lower (Kd.R_new' (Kd.R_new' (Kd.R_new' (Kd.R_new' (Kd.R_new' (Kd.R_new' ho1 (Kd.R_lt (xr HO257.out))) (Kd.R_lt (xr HO260.out))) (Kd.R_lt (xr HO265.out))) (Kd.R_lt (xr HO268.out))) (Kd.R_lt (xr HO273.out))) (Kd.R_lt (xr HO276.out))) (below_size (xs HB.out)))
     replace HO257 := xt HO257 hb ho0 ho1
     replace HO260 := xt HO260 hb ho0 ho1
     replace HO265 := xt HO265 hb ho0 ho1
     replace HO268 := xt HO268 hb ho0 ho1
     replace HO273 := xt HO273 hb ho0 ho1
     replace HO276 := xt HO276 hb ho0 ho1
     replace BK252 := xk BK252 hb
     replace BK253 := xk BK253 hb
     replace BK270 := xk BK270 hb
     replace BK277 := xk BK277 hb
     replace BK287 := xk BK287 hb
     replace HB := xp HB hb
     (try clear hb)
     (try clear hb2)
     (try clear hk)
     (try clear hi)
     (try clear ho0)
     (try clear ho1)
     refine hK.out _ _ ⟨(blk_cell BK277.out 0).trans rfl, (blk_cell BK277.out 1).trans rfl, (blk_cell BK253.out 0).trans rfl, (blk_cell BK253.out 1).trans rfl⟩ (fun hHeld => ?_)
     clear hK K
     refine norm_ (a' := ?_) ?_ ?_
     rotate_left
     ·show Act.put _ (some 35) _ = _
      simp only [Act.put, List.setIfInBounds_toArray, List.set_cons_zero, List.set_cons_succ, i64_w, i32_w]
      rfl
     refine pure_ (i := 4) (N := some 31) (v := ?_) (a' := ?_) #[true, true, true, true, true, false, false, true, false, false] rfl rfl (any_of HT_.out (by kernel_rfl)) (fun _ _ _ h => h) (Or.inl ⟨by rfl, ?_⟩) ?_ ?_
     rotate_left
     ·intro w'
      go_simp
      with_reducible rfl
     rotate_left
     ·simp only [Act.put, List.setIfInBounds_toArray, List.set_cons_zero, List.set_cons_succ, i64_w, i32_w]
      rfl
     refine pure_ (i := 5) (N := some 36) (v := ?_) (a' := ?_) #[true, true, true, true, true, true, false, true, false, false] rfl rfl (any_of HT_.out (by kernel_rfl)) (fun _ _ _ h => h) (Or.inl ⟨by rfl, ?_⟩) ?_ ?_
     rotate_left
     ·intro w'
      go_simp
      with_reducible rfl
     rotate_left
     ·simp only [Act.put, List.setIfInBounds_toArray, List.set_cons_zero, List.set_cons_succ, i64_w, i32_w]
      rfl
     refine pure_ (i := 6) (N := some 37) (v := ?_) (a' := ?_) #[true, true, true, true, true, true, true, true, false, false] rfl rfl (any_of HT_.out (by kernel_rfl)) (fun _ _ _ h => h) (Or.inl ⟨by rfl, ?_⟩) ?_ ?_
     rotate_left
     ·intro w'
      go_simp
      with_reducible rfl
     rotate_left
     ·simp only [Act.put, List.setIfInBounds_toArray, List.set_cons_zero, List.set_cons_succ, i64_w, i32_w]
      rfl
     exact norm_ (by simp only [putAll, Act.put, List.setIfInBounds_toArray, List.set_cons_zero, List.set_cons_succ]) (hCont (v281, v284, gb287) _ ⟨hHeld, (xm HO257 (fun _ hk => ⟨hk.1.1.1, ⟨hk.1.1.2.1, ⟨hk.1.1.2.2.1, ⟨hk.1.1.2.2.2.1, ⟨hk.1.1.2.2.2.2, ⟨hk.1.2, hk.2⟩⟩⟩⟩⟩⟩)), (xm HO260 (fun _ hk => ⟨hk.1.1.1, ⟨hk.1.1.2.1, ⟨hk.1.1.2.2.1, ⟨hk.1.1.2.2.2.1, ⟨hk.1.1.2.2.2.2, ⟨hk.1.2, hk.2⟩⟩⟩⟩⟩⟩)), (xm HO265 (fun _ hk => ⟨hk.1.1.1, ⟨hk.1.1.2.1, ⟨hk.1.1.2.2.1, ⟨hk.1.1.2.2.2.1, ⟨hk.1.1.2.2.2.2, ⟨hk.1.2, hk.2⟩⟩⟩⟩⟩⟩)), (xm HO268 (fun _ hk => ⟨hk.1.1.1, ⟨hk.1.1.2.1, ⟨hk.1.1.2.2.1, ⟨hk.1.1.2.2.2.1, ⟨hk.1.1.2.2.2.2, ⟨hk.1.2, hk.2⟩⟩⟩⟩⟩⟩)), (xm HO273 (fun _ hk => ⟨hk.1.1.1, ⟨hk.1.1.2.1, ⟨hk.1.1.2.2.1, ⟨hk.1.1.2.2.2.1, ⟨hk.1.1.2.2.2.2, ⟨hk.1.2, hk.2⟩⟩⟩⟩⟩⟩)), (xm HO276 (fun _ hk => ⟨hk.1.1.1, ⟨hk.1.1.2.1, ⟨hk.1.1.2.2.1, ⟨hk.1.1.2.2.2.1, ⟨hk.1.1.2.2.2.2, ⟨hk.1.2, hk.2⟩⟩⟩⟩⟩⟩)), (xm HO282 (fun _ hk => ⟨hk.1.1.1.1.1.2, ⟨hk.1.1.1.1.2, ⟨hk.1.1.1.2, ⟨hk.1.1.2, ⟨hk.1.2, ⟨hk.2, hk.1.1.1.1.1.1⟩⟩⟩⟩⟩⟩)), (xm HO285 (fun _ hk => ⟨hk.1.1.1.1.1.2, ⟨hk.1.1.1.1.2, ⟨hk.1.1.1.2, ⟨hk.1.1.2, ⟨hk.1.2, ⟨hk.2, hk.1.1.1.1.1.1⟩⟩⟩⟩⟩⟩)), (xb BK252.out), (xb BK253.out), (xb BK270.out), (xb BK277.out), (xb BK287.out), GW287.out, GE287.out, NB252_287.out, NB287_252.out, NB253_287.out, NB287_253.out, NB270_287.out, NB287_270.out, NB277_287.out, NB287_277.out, (xs HB.out)⟩)
   ·skip
    refine box_step ?hg (N := 9) ?hd (cs := #[.slice none 0 0, .slice none 0 0]) (t := 26) ?hr ?_; (case hd => rfl); (case hg => rfl); (case hr => first | (go_simp; done) | (go_simp; rfl))
    intro gb287 hg w46 hbox hb
    replace HO257 := xq HO257 hb
    replace HO260 := xq HO260 hb
    replace HO265 := xq HO265 hb
    replace HO268 := xq HO268 hb
    replace HO273 := xq HO273 hb
    replace HO276 := xq HO276 hb
    have BK287 := Aside0.mk (hbox)
    have GW287 := xg HB hg
    have GE287 := xg HB hg
    replace HB := xp HB hb
    have NB252_287 := xl BK252 hg
    have NB287_252 := xh BK252 hg
    replace BK252 := xk BK252 hb
    have NB253_287 := xl BK253 hg
    have NB287_253 := xh BK253 hg
    replace BK253 := xk BK253 hb
    have NB270_287 := xl BK270 hg
    have NB287_270 := xh BK270 hg
    replace BK270 := xk BK270 hb
    have NB277_287 := xl BK277 hg
    have NB287_277 := xh BK277 hg
    replace BK277 := xk BK277 hb
    clear hb hbox hg
    refine hK.out _ _ ⟨(blk_cell BK277.out 0).trans rfl, (blk_cell BK277.out 1).trans rfl, (blk_cell BK253.out 0).trans rfl, (blk_cell BK253.out 1).trans rfl⟩ (fun hHeld => ?_)
    clear hK K
    refine norm_ (a' := ?_) ?_ ?_
    rotate_left
    ·show Act.put _ (some 9) _ = _
     simp only [Act.put, List.setIfInBounds_toArray, List.set_cons_zero, List.set_cons_succ, i64_w, i32_w]
     rfl
    refine one_ (i := 2) (N := some 34) #[true, true, true, false, false, false, false, true, false, false] rfl rfl (one_of HT_.out (by kernel_rfl)) (by decide) (fun K hK => ?_)
    refine goes_ Try.func27 (by kernel_rfl) rfl #[.agg #[.int .i64 a1_0, .int .i64 a1_1]] (by rfl) rfl rfl (by (try simp only [List.map_toArray, List.map_cons, List.map_nil]); first | done | rfl | (simp only [List.length_drop, List.length_take]; rfl)) ?_
    with_reducible refine (laws_toMove.calls a1_0 a1_1 t278 t279 _ A14.out).mono ?_
    rintro e w47 ⟨rfl, hb⟩
    refine ⟨_, rfl, ?_⟩
    replace HO257 := xq HO257 hb
    replace HO260 := xq HO260 hb
    replace HO265 := xq HO265 hb
    replace HO268 := xq HO268 hb
    replace HO273 := xq HO273 hb
    replace HO276 := xq HO276 hb
    replace BK252 := xk BK252 hb
    replace BK253 := xk BK253 hb
    replace BK270 := xk BK270 hb
    replace BK277 := xk BK277 hb
    replace BK287 := xk BK287 hb
    replace HB := xp HB hb
    (try clear hb)
    (try clear hb2)
    (try clear hk)
    (try clear hi)
    refine hK.out _ _ ⟨(blk_cell BK277.out 0).trans rfl, (blk_cell BK277.out 1).trans rfl, (blk_cell BK253.out 0).trans rfl, (blk_cell BK253.out 1).trans rfl⟩ (fun hHeld => ?_)
    clear hK K
    refine norm_ (a' := ?_) ?_ ?_
    rotate_left
    ·show Act.put _ (some 34) _ = _
     simp only [Act.put, List.setIfInBounds_toArray, List.set_cons_zero, List.set_cons_succ, i64_w, i32_w]
     rfl
    refine one_ (i := 3) (N := some 35) #[true, true, true, true, false, false, false, true, false, false] rfl rfl (one_of HT_.out (by kernel_rfl)) (by decide) (fun K hK => ?_)
    refine goes_ Try.func28 (by kernel_rfl) rfl #[.agg #[.slice Ao38 t271.length co38, .slice Ao43 t274.length co43], .agg #[.int .i64 t278, .int .i64 t279]] (by rfl) rfl rfl (by (try simp only [List.map_toArray, List.map_cons, List.map_nil]); first | done | rfl | (simp only [List.length_drop, List.length_take]; rfl)) ?_
    with_reducible refine (impl_MakeMove.calls k _ _ t271 _ _ t274 t278 t279 t280 t283 t286 _ ?side1 ?side2 ?side3 ?side4 A15.out).mono ?_
    (case side1 => exact xd ((Kd.R_reads' HO273.out).2.2))
    (case side2 => exact (Kd.R_reads' HO273.out).2.1)
    (case side3 => exact xd ((Kd.R_reads' HO276.out).2.2))
    (case side4 => exact (Kd.R_reads' HO276.out).2.1)
    rintro e w48 ⟨v281, v284, rfl, ho0, ho1, hb⟩
    refine ⟨_, rfl, ?_⟩
    have HO282 := Aside0.mk (Kd.R_lower (Kd.R_new' (Kd.R_new' (Kd.R_new' (Kd.R_new' (Kd.R_new' (Kd.R_new' ho0 (Kd.R_lt (xr HO257.out))) (Kd.R_lt (xr HO260.out))) (Kd.R_lt (xr HO265.out))) (Kd.R_lt (xr HO268.out))) (Kd.R_lt (xr HO273.out))) (Kd.R_lt (xr HO276.out))) (below_size (xs HB.out)))
    have HO285 := Aside0.mk (Kd.R_lower (Kd.R_new' (Kd.R_new' (Kd.R_new' (Kd.R_new' (Kd.R_new' (Kd.R_new' ho1 (Kd.R_lt (xr HO257.out))) (Kd.R_lt (xr HO260.out))) (Kd.R_lt (xr HO265.out))) (Kd.R_lt (xr HO268.out))) (Kd.R_lt (xr HO273.out))) (Kd.R_lt (xr HO276.out))) (below_size (xs HB.out)))
    replace HO257 := xt HO257 hb ho0 ho1
    replace HO260 := xt HO260 hb ho0 ho1
    replace HO265 := xt HO265 hb ho0 ho1
    replace HO268 := xt HO268 hb ho0 ho1
    replace HO273 := xt HO273 hb ho0 ho1
    replace HO276 := xt HO276 hb ho0 ho1
    replace BK252 := xk BK252 hb
    replace BK253 := xk BK253 hb
    replace BK270 := xk BK270 hb
    replace BK277 := xk BK277 hb
    replace BK287 := xk BK287 hb
    replace HB := xp HB hb
    (try clear hb)
    (try clear hb2)
    (try clear hk)
    (try clear hi)
    (try clear ho0)
    (try clear ho1)
    refine hK.out _ _ ⟨(blk_cell BK277.out 0).trans rfl, (blk_cell BK277.out 1).trans rfl, (blk_cell BK253.out 0).trans rfl, (blk_cell BK253.out 1).trans rfl⟩ (fun hHeld => ?_)
    clear hK K
    refine norm_ (a' := ?_) ?_ ?_
    rotate_left
    ·show Act.put _ (some 35) _ = _
     simp only [Act.put, List.setIfInBounds_toArray, List.set_cons_zero, List.set_cons_succ, i64_w, i32_w]
     rfl
    refine pure_ (i := 4) (N := some 31) (v := ?_) (a' := ?_) #[true, true, true, true, true, false, false, true, false, false] rfl rfl (any_of HT_.out (by kernel_rfl)) (fun _ _ _ h => h) (Or.inl ⟨by rfl, ?_⟩) ?_ ?_
    rotate_left
    ·intro w'
     go_simp
     with_reducible rfl
    rotate_left
    ·simp only [Act.put, List.setIfInBounds_toArray, List.set_cons_zero, List.set_cons_succ, i64_w, i32_w]
     rfl
    refine pure_ (i := 5) (N := some 36) (v := ?_) (a' := ?_) #[true, true, true, true, true, true, false, true, false, false] rfl rfl (any_of HT_.out (by kernel_rfl)) (fun _ _ _ h => h) (Or.inl ⟨by rfl, ?_⟩) ?_ ?_
    rotate_left
    ·intro w'
     go_simp
     with_reducible rfl
    rotate_left
    ·simp only [Act.put, List.setIfInBounds_toArray, List.set_cons_zero, List.set_cons_succ, i64_w, i32_w]
     rfl
    refine pure_ (i := 6) (N := some 37) (v := ?_) (a' := ?_) #[true, true, true, true, true, true, true, true, false, false] rfl rfl (any_of HT_.out (by kernel_rfl)) (fun _ _ _ h => h) (Or.inl ⟨by rfl, ?_⟩) ?_ ?_
    rotate_left
    ·intro w'
     go_simp
     with_reducible rfl
    rotate_left
    ·simp only [Act.put, List.setIfInBounds_toArray, List.set_cons_zero, List.set_cons_succ, i64_w, i32_w]
     rfl
    exact norm_ (by simp only [putAll, Act.put, List.setIfInBounds_toArray, List.set_cons_zero, List.set_cons_succ]) (hCont (v281, v284, gb287) _ ⟨hHeld, (xm HO257 (fun _ hk => ⟨hk.1.1.1, ⟨hk.1.1.2.1, ⟨hk.1.1.2.2.1, ⟨hk.1.1.2.2.2.1, ⟨hk.1.1.2.2.2.2, ⟨hk.1.2, hk.2⟩⟩⟩⟩⟩⟩)), (xm HO260 (fun _ hk => ⟨hk.1.1.1, ⟨hk.1.1.2.1, ⟨hk.1.1.2.2.1, ⟨hk.1.1.2.2.2.1, ⟨hk.1.1.2.2.2.2, ⟨hk.1.2, hk.2⟩⟩⟩⟩⟩⟩)), (xm HO265 (fun _ hk => ⟨hk.1.1.1, ⟨hk.1.1.2.1, ⟨hk.1.1.2.2.1, ⟨hk.1.1.2.2.2.1, ⟨hk.1.1.2.2.2.2, ⟨hk.1.2, hk.2⟩⟩⟩⟩⟩⟩)), (xm HO268 (fun _ hk => ⟨hk.1.1.1, ⟨hk.1.1.2.1, ⟨hk.1.1.2.2.1, ⟨hk.1.1.2.2.2.1, ⟨hk.1.1.2.2.2.2, ⟨hk.1.2, hk.2⟩⟩⟩⟩⟩⟩)), (xm HO273 (fun _ hk => ⟨hk.1.1.1, ⟨hk.1.1.2.1, ⟨hk.1.1.2.2.1, ⟨hk.1.1.2.2.2.1, ⟨hk.1.1.2.2.2.2, ⟨hk.1.2, hk.2⟩⟩⟩⟩⟩⟩)), (xm HO276 (fun _ hk => ⟨hk.1.1.1, ⟨hk.1.1.2.1, ⟨hk.1.1.2.2.1, ⟨hk.1.1.2.2.2.1, ⟨hk.1.1.2.2.2.2, ⟨hk.1.2, hk.2⟩⟩⟩⟩⟩⟩)), (xm HO282 (fun _ hk => ⟨hk.1.1.1.1.1.2, ⟨hk.1.1.1.1.2, ⟨hk.1.1.1.2, ⟨hk.1.1.2, ⟨hk.1.2, ⟨hk.2, hk.1.1.1.1.1.1⟩⟩⟩⟩⟩⟩)), (xm HO285 (fun _ hk => ⟨hk.1.1.1.1.1.2, ⟨hk.1.1.1.1.2, ⟨hk.1.1.1.2, ⟨hk.1.1.2, ⟨hk.1.2, ⟨hk.2, hk.1.1.1.1.1.1⟩⟩⟩⟩⟩⟩)), (xb BK252.out), (xb BK253.out), (xb BK270.out), (xb BK277.out), (xb BK287.out), GW287.out, GE287.out, NB252_287.out, NB287_252.out, NB253_287.out, NB287_253.out, NB270_287.out, NB287_270.out, NB277_287.out, NB287_277.out, (xs HB.out)⟩)
  rintro ⟨v281, v284, gb287⟩ w49 ⟨hS_, h0_, h1_, h2_, h3_, h4_, h5_, h6_, h7_, h8_, h9_, h10_, h11_, h12_, h13_, h14_, h15_, h16_, h17_, h18_, h19_, h20_, h21_, h22_, h23_⟩
  have n0_ : Aside0 (Kd.R (Kd.int .i64) 3 w49 w.heap.size (fun k_ => nV k_ v259 ∧ nS k_ Ao30 t263.length co30 ∧ nS k_ Ao32 t266.length co32 ∧ nS k_ Ao38 t271.length co38 ∧ nS k_ Ao43 t274.length co43 ∧ nV k_ v281 ∧ nV k_ v284) v256 t255) := ⟨h0_⟩
  have n1_ : Aside0 (Kd.R (Kd.int .i64) 3 w49 w.heap.size (fun k_ => nV k_ v256 ∧ nS k_ Ao30 t263.length co30 ∧ nS k_ Ao32 t266.length co32 ∧ nS k_ Ao38 t271.length co38 ∧ nS k_ Ao43 t274.length co43 ∧ nV k_ v281 ∧ nV k_ v284) v259 t258) := ⟨h1_⟩
  have n2_ : Aside0 (Kd.R (Kd.int .i64) 3 w49 w.heap.size (fun k_ => nV k_ v256 ∧ nV k_ v259 ∧ nS k_ Ao32 t266.length co32 ∧ nS k_ Ao38 t271.length co38 ∧ nS k_ Ao43 t274.length co43 ∧ nV k_ v281 ∧ nV k_ v284) (.slice Ao30 t263.length co30) t263) := ⟨h2_⟩
  have n3_ : Aside0 (Kd.R (Kd.int .i64) 3 w49 w.heap.size (fun k_ => nV k_ v256 ∧ nV k_ v259 ∧ nS k_ Ao30 t263.length co30 ∧ nS k_ Ao38 t271.length co38 ∧ nS k_ Ao43 t274.length co43 ∧ nV k_ v281 ∧ nV k_ v284) (.slice Ao32 t266.length co32) t266) := ⟨h3_⟩
  have n4_ : Aside0 (Kd.R (Kd.int .i64) 3 w49 w.heap.size (fun k_ => nV k_ v256 ∧ nV k_ v259 ∧ nS k_ Ao30 t263.length co30 ∧ nS k_ Ao32 t266.length co32 ∧ nS k_ Ao43 t274.length co43 ∧ nV k_ v281 ∧ nV k_ v284) (.slice Ao38 t271.length co38) t271) := ⟨h4_⟩
  have n5_ : Aside0 (Kd.R (Kd.int .i64) 3 w49 w.heap.size (fun k_ => nV k_ v256 ∧ nV k_ v259 ∧ nS k_ Ao30 t263.length co30 ∧ nS k_ Ao32 t266.length co32 ∧ nS k_ Ao38 t271.length co38 ∧ nV k_ v281 ∧ nV k_ v284) (.slice Ao43 t274.length co43) t274) := ⟨h5_⟩
  have n6_ : Aside0 (Kd.R (Kd.int .i64) 3 w49 w.heap.size (fun k_ => nV k_ v256 ∧ nV k_ v259 ∧ nS k_ Ao30 t263.length co30 ∧ nS k_ Ao32 t266.length co32 ∧ nS k_ Ao38 t271.length co38 ∧ nS k_ Ao43 t274.length co43 ∧ nV k_ v284) v281 t280) := ⟨h6_⟩
  have n7_ : Aside0 (Kd.R (Kd.int .i64) 3 w49 w.heap.size (fun k_ => nV k_ v256 ∧ nV k_ v259 ∧ nS k_ Ao30 t263.length co30 ∧ nS k_ Ao32 t266.length co32 ∧ nS k_ Ao38 t271.length co38 ∧ nS k_ Ao43 t274.length co43 ∧ nV k_ v281) v284 t283) := ⟨h7_⟩
  have n8_ : Aside0 (w49.heap[gb252]? = some (.cells #[.slice A0_0 l0_0.length c0_0, .slice A0_1 l0_1.length c0_1] 24 (0, 0))) := ⟨h8_⟩
  have n9_ : Aside0 (w49.heap[gb253]? = some (.cells #[.int .i64 a1_0, .int .i64 a1_1] 39 (0, 0))) := ⟨h9_⟩
  have n10_ : Aside0 (w49.heap[gb270]? = some (.cells #[.slice Ao30 t263.length co30, .slice Ao32 t266.length co32] 26 (0, 0))) := ⟨h10_⟩
  have n11_ : Aside0 (w49.heap[gb277]? = some (.cells #[.slice Ao38 t271.length co38, .slice Ao43 t274.length co43] 26 (0, 0))) := ⟨h11_⟩
  have n12_ : Aside0 (w49.heap[gb287]? = some (.cells #[.slice none 0 0, .slice none 0 0] 26 (0, 0))) := ⟨h12_⟩
  have n13_ : Aside0 (w.heap.size ≤ gb287) := ⟨h13_⟩
  have n14_ : Aside0 (w.heap.size ≤ gb287) := ⟨h14_⟩
  have n15_ : Aside0 (gb252 ≠ gb287) := ⟨h15_⟩
  have n16_ : Aside0 (gb287 ≠ gb252) := ⟨h16_⟩
  have n17_ : Aside0 (gb253 ≠ gb287) := ⟨h17_⟩
  have n18_ : Aside0 (gb287 ≠ gb253) := ⟨h18_⟩
  have n19_ : Aside0 (gb270 ≠ gb287) := ⟨h19_⟩
  have n20_ : Aside0 (gb287 ≠ gb270) := ⟨h20_⟩
  have n21_ : Aside0 (gb277 ≠ gb287) := ⟨h21_⟩
  have n22_ : Aside0 (gb287 ≠ gb277) := ⟨h22_⟩
  have n23_ : Aside0 (Below w.heap.size w w49) := ⟨h23_⟩
  clear HO257
  clear HO260
  clear HO265
  clear HO268
  clear HO273
  clear HO276
  clear BK252
  clear BK253
  clear BK270
  clear BK277
  clear HB
  clear h0_ h1_ h2_ h3_ h4_ h5_ h6_ h7_ h8_ h9_ h10_ h11_ h12_ h13_ h14_ h15_ h16_ h17_ h18_ h19_ h20_ h21_ h22_ h23_
  have HO257 := n0_
  have HO260 := n1_
  have HO265 := n2_
  have HO268 := n3_
  have HO273 := n4_
  have HO276 := n5_
  have HO282 := n6_
  have HO285 := n7_
  have BK252 := n8_
  have BK253 := n9_
  have BK270 := n10_
  have BK277 := n11_
  have BK287 := n12_
  have GW287 := n13_
  have GE287 := n14_
  have NB252_287 := n15_
  have NB287_252 := n16_
  have NB253_287 := n17_
  have NB287_253 := n18_
  have NB270_287 := n19_
  have NB287_270 := n20_
  have NB277_287 := n21_
  have NB287_277 := n22_
  have HB := n23_
  clear n0_ n1_ n2_ n3_ n4_ n5_ n6_ n7_ n8_ n9_ n10_ n11_ n12_ n13_ n14_ n15_ n16_ n17_ n18_ n19_ n20_ n21_ n22_ n23_
  have hHeld : w49.cell? ⟨gb277, 0, none⟩ = some (.slice Ao38 t271.length co38) ∧ w49.cell? ⟨gb277, 1, none⟩ = some (.slice Ao43 t274.length co43) ∧ w49.cell? ⟨gb253, 0, none⟩ = some (.int .i64 a1_0) ∧ w49.cell? ⟨gb253, 1, none⟩ = some (.int .i64 a1_1) := hS_
  obtain ⟨Ao50, co50, eo50⟩ := Kd.R_slice HO282.out
  (first | subst eo50 | (injection eo50 with f1_ f2_ f3_; have f4_ := f1_.symm; have f5_ := f3_.symm; clear f1_ f2_ f3_; subst f4_; subst f5_))
  obtain ⟨Ao52, co52, eo52⟩ := Kd.R_slice HO285.out
  (first | subst eo52 | (injection eo52 with f1_ f2_ f3_; have f4_ := f1_.symm; have f5_ := f3_.symm; clear f1_ f2_ f3_; subst f4_; subst f5_))
  refine norm_ (a' := ?_) ?_ ?_
  rotate_left
  ·simp only [putAll, Act.put, List.setIfInBounds_toArray, List.set_cons_zero, List.set_cons_succ]
   rfl
  refine one_ (i := 8) (N := none) #[true, true, true, true, true, true, true, true, true, false] rfl rfl (one_of HT_.out (by kernel_rfl)) (by decide) (fun K hK => ?_)
  have hs51 : w49.cell? ⟨gb287, 0, none⟩ = some (.slice none 0 0) := (blk_cell BK287.out 0).trans rfl
  have hfs51 := blk_frozen BK287.out 0
  have hns51_0 := NB252_287.out
  have hns51_1 := NB253_287.out
  have hns51_2 := NB270_287.out
  have hns51_3 := NB277_287.out
  have hms51_0 := NB287_252.out
  have hms51_1 := NB287_253.out
  have hms51_2 := NB287_270.out
  have hms51_3 := NB287_277.out
  have hs53 : w49.cell? ⟨gb287, 1, none⟩ = some (.slice none 0 0) := (blk_cell BK287.out 1).trans rfl
  have hfs53 := blk_frozen BK287.out 1
  have hns53_0 := NB252_287.out
  have hns53_1 := NB253_287.out
  have hns53_2 := NB270_287.out
  have hns53_3 := NB277_287.out
  have hms53_0 := NB287_252.out
  have hms53_1 := NB287_253.out
  have hms53_2 := NB287_270.out
  have hms53_3 := NB287_277.out
  refine skip_ (w1 := ?_) (by rfl) rfl ?_ ?_
  rotate_left
  ·go_simp
   rfl
  refine hK.out _ _ ⟨((cell_far (p := ⟨gb287, _, none⟩) NB277_287.out _).trans (((cell_far (p := ⟨gb287, _, none⟩) NB277_287.out _).trans (hHeld.1)))), ((cell_far (p := ⟨gb287, _, none⟩) NB277_287.out _).trans (((cell_far (p := ⟨gb287, _, none⟩) NB277_287.out _).trans (hHeld.2.1)))), ((cell_far (p := ⟨gb287, _, none⟩) NB253_287.out _).trans (((cell_far (p := ⟨gb287, _, none⟩) NB253_287.out _).trans (hHeld.2.2.1)))), ((cell_far (p := ⟨gb287, _, none⟩) NB253_287.out _).trans (((cell_far (p := ⟨gb287, _, none⟩) NB253_287.out _).trans (hHeld.2.2.2))))⟩ (fun hHeld => ?_)
  clear hK K
  refine pure_ (i := 9) (N := some 10) (v := ?_) (a' := ?_) #[true, true, true, true, true, true, true, true, true, true] rfl rfl (any_of HT_.out (by kernel_rfl)) (fun _ _ _ h => h) (Or.inl ⟨by rfl, ?_⟩) ?_ ?_
  rotate_left
  ·intro w'
   go_simp
   with_reducible rfl
  rotate_left
  ·simp only [Act.put, List.setIfInBounds_toArray, List.set_cons_zero, List.set_cons_succ, i64_w, i32_w]
   rfl
  refine done_ (done_of HT_.out (by kernel_rfl)) ?_
  go_upto_region 8 with (fail)
  go_cut [46] (fun v46 wc => ∃ (kq : Nat) (x46_15 : Bool), v46 = .bool x46_15 ∧ Aside0 (laws_FnExactMakeMove.j0 kq t269 t286 x46_15 l0_0 l0_1 a1_0 a1_1 t263 t266 t271 t274 t280 t283 = some true) ∧ Aside0 (kq ≤ k) ∧ Aside0 (Kd.R (Kd.int .i64) 3 wc w.heap.size (fun k_ => nS k_ Ao32 t266.length co32 ∧ nS k_ Ao38 t271.length co38 ∧ nS k_ Ao43 t274.length co43 ∧ nS k_ Ao50 t280.length co50 ∧ nS k_ Ao52 t283.length co52) (.slice Ao30 t263.length co30) t263) ∧ Aside0 (Kd.R (Kd.int .i64) 3 wc w.heap.size (fun k_ => nS k_ Ao30 t263.length co30 ∧ nS k_ Ao38 t271.length co38 ∧ nS k_ Ao43 t274.length co43 ∧ nS k_ Ao50 t280.length co50 ∧ nS k_ Ao52 t283.length co52) (.slice Ao32 t266.length co32) t266) ∧ Aside0 (Kd.R (Kd.int .i64) 3 wc w.heap.size (fun k_ => nS k_ Ao30 t263.length co30 ∧ nS k_ Ao32 t266.length co32 ∧ nS k_ Ao43 t274.length co43 ∧ nS k_ Ao50 t280.length co50 ∧ nS k_ Ao52 t283.length co52) (.slice Ao38 t271.length co38) t271) ∧ Aside0 (Kd.R (Kd.int .i64) 3 wc w.heap.size (fun k_ => nS k_ Ao30 t263.length co30 ∧ nS k_ Ao32 t266.length co32 ∧ nS k_ Ao38 t271.length co38 ∧ nS k_ Ao50 t280.length co50 ∧ nS k_ Ao52 t283.length co52) (.slice Ao43 t274.length co43) t274) ∧ Aside0 (Kd.R (Kd.int .i64) 3 wc w.heap.size (fun k_ => nS k_ Ao30 t263.length co30 ∧ nS k_ Ao32 t266.length co32 ∧ nS k_ Ao38 t271.length co38 ∧ nS k_ Ao43 t274.length co43 ∧ nS k_ Ao52 t283.length co52) (.slice Ao50 t280.length co50) t280) ∧ Aside0 (Kd.R (Kd.int .i64) 3 wc w.heap.size (fun k_ => nS k_ Ao30 t263.length co30 ∧ nS k_ Ao32 t266.length co32 ∧ nS k_ Ao38 t271.length co38 ∧ nS k_ Ao43 t274.length co43 ∧ nS k_ Ao50 t280.length co50) (.slice Ao52 t283.length co52) t283) ∧ Aside0 (wc.heap[gb252]? = some (.cells #[(.slice A0_0 l0_0.length c0_0), (.slice A0_1 l0_1.length c0_1)] 24 (0, 0))) ∧ Aside0 (wc.heap[gb253]? = some (.cells #[.int .i64 a1_0, .int .i64 a1_1] 39 (0, 0))) ∧ Aside0 (wc.heap[gb270]? = some (.cells #[(.slice Ao30 t263.length co30), (.slice Ao32 t266.length co32)] 26 (0, 0))) ∧ Aside0 (wc.heap[gb277]? = some (.cells #[(.slice Ao38 t271.length co38), (.slice Ao43 t274.length co43)] 26 (0, 0))) ∧ Aside0 (wc.heap[gb287]? = some (.cells #[(.slice Ao50 t280.length co50), (.slice Ao52 t283.length co52)] 26 (0, 0))) ∧ Aside0 (Below w.heap.size w wc))
  case first =>
   have H := HC16.out
   clear HC16
   replace H := Option.bind_eq_some_iff.mp H
   obtain ⟨t288, A540, H⟩ := H
   replace H : (if t288 = true then (laws_FnExactMakeMove.j0 k t269 t286 (t286 != t269) l0_0 l0_1 a1_0 a1_1 t263 t266 t271 t274 t280 t283) else (laws_FnExactMakeMove.j0 k t269 t286 true l0_0 l0_1 a1_0 a1_1 t263 t266 t271 t274 t280 t283)) = some true := H
   have A54 := Aside0.mk A540
   clear A540
   by_cases c55 : t288 = true
   ·subst c55
    have H1 : (laws_FnExactMakeMove.j0 k t269 t286 (t286 != t269) l0_0 l0_1 a1_0 a1_1 t263 t266 t271 t274 t280 t283) = some true := by first | (rw [if_pos rfl] at H; exact H) | rfl
    clear H
    have H := H1
    clear H1
    have H' := Aside0.mk H
    clear H
    have hnb56 := NB287_252.out
    have hnc56 := NB252_287.out
    have hnb57 := NB287_253.out
    have hnc57 := NB253_287.out
    have hnb58 := NB287_270.out
    have hnc58 := NB270_287.out
    have hnb59 := NB287_277.out
    have hnc59 := NB277_287.out
    have hcz60_0 : w49.cell? ⟨gb287, 0, none⟩ = some (.slice none 0 0) := (blk_cell BK287.out 0).trans rfl
    have hcz60_1 : w49.cell? ⟨gb287, 1, none⟩ = some (.slice none 0 0) := (blk_cell BK287.out 1).trans rfl
    have hfz60_0 := blk_frozen BK287.out 0
    have hfz60_1 := blk_frozen BK287.out 1
    have hnb61 := NB270_252.out
    have hnc61 := NB252_270.out
    have hnb62 := NB270_253.out
    have hnc62 := NB253_270.out
    have hnb63 := NB270_277.out
    have hnc63 := NB277_270.out
    have hcz64_0 : w49.cell? ⟨gb270, 0, none⟩ = some (.slice Ao30 t263.length co30) := (blk_cell BK270.out 0).trans rfl
    have hcz64_1 : w49.cell? ⟨gb270, 1, none⟩ = some (.slice Ao32 t266.length co32) := (blk_cell BK270.out 1).trans rfl
    have hfz64_0 := blk_frozen BK270.out 0
    have hfz64_1 := blk_frozen BK270.out 1
    go_wp2_with (first | ((with_reducible refine gate_callee (f := 19) rfl ?_); refine goesL_ (some 40) rfl rfl Try.func19 (by kernel_rfl) rfl #[.agg #[.slice Ao50 t280.length co50, .slice Ao52 t283.length co52], .agg #[.slice Ao30 t263.length co30, .slice Ao32 t266.length co32]] rfl (by (try simp only [List.map_toArray, List.map_cons, List.map_nil]); first | done | rfl | (simp only [List.length_drop, List.length_take]; rfl)) ?_; (with_reducible refine (laws_eqVessels.calls k _ _ t280 _ _ t283 _ _ t263 _ _ t266 true _ ?side1 ?side2 ?side3 ?side4 ?side5 ?side6 ?side7 ?side8 A54.out).mono ?_); (case side1 => refine (Kd.R_reads' (e := 3) (base := w.heap.size) (ok := fun k_ => (nV k_ v256 ∧ (nV k_ v259 ∧ (nS k_ Ao30 t263.length co30 ∧ (nS k_ Ao32 t266.length co32 ∧ (nS k_ Ao38 t271.length co38 ∧ (nS k_ Ao43 t274.length co43 ∧ nS k_ Ao52 t283.length co52))))))) (n := t280.length) (c := co50) ?_).2.2; exact (by (with_reducible repeat (first | apply Kd.R_alloc | apply Kd.R_drewN | apply Kd.R_drew)); exact (Kd.R_mono (Kd.R_far (p := ⟨gb287, 1, none⟩) (Kd.R_far (p := ⟨gb287, 0, none⟩) (Kd.R_types HO282.out BK287.out (by decide)) (fun _ hk => hk.2) (.slice Ao50 t280.length co50)) (fun _ hk => hk.2) (.slice Ao52 t283.length co52)) (fun _ h_ => h_.1)))); (case side2 => exact (Kd.R_reads' HO282.out).2.1); (case side3 => refine (Kd.R_reads' (e := 3) (base := w.heap.size) (ok := fun k_ => (nV k_ v256 ∧ (nV k_ v259 ∧ (nS k_ Ao30 t263.length co30 ∧ (nS k_ Ao32 t266.length co32 ∧ (nS k_ Ao38 t271.length co38 ∧ (nS k_ Ao43 t274.length co43 ∧ nS k_ Ao50 t280.length co50))))))) (n := t283.length) (c := co52) ?_).2.2; exact (by (with_reducible repeat (first | apply Kd.R_alloc | apply Kd.R_drewN | apply Kd.R_drew)); exact (Kd.R_mono (Kd.R_far (p := ⟨gb287, 1, none⟩) (Kd.R_far (p := ⟨gb287, 0, none⟩) (Kd.R_types HO285.out BK287.out (by decide)) (fun _ hk => hk.2) (.slice Ao50 t280.length co50)) (fun _ hk => hk.2) (.slice Ao52 t283.length co52)) (fun _ h_ => h_.1)))); (case side4 => exact (Kd.R_reads' HO285.out).2.1); (case side5 => refine (Kd.R_reads' (e := 3) (base := w.heap.size) (ok := fun k_ => (nV k_ v256 ∧ (nV k_ v259 ∧ (nS k_ Ao32 t266.length co32 ∧ (nS k_ Ao38 t271.length co38 ∧ (nS k_ Ao43 t274.length co43 ∧ (nS k_ Ao50 t280.length co50 ∧ nS k_ Ao52 t283.length co52))))))) (n := t263.length) (c := co30) ?_).2.2; exact (by (with_reducible repeat (first | apply Kd.R_alloc | apply Kd.R_drewN | apply Kd.R_drew)); exact (Kd.R_mono (Kd.R_far (p := ⟨gb287, 1, none⟩) (Kd.R_far (p := ⟨gb287, 0, none⟩) (Kd.R_types HO265.out BK287.out (by decide)) (fun _ hk => hk.2) (.slice Ao50 t280.length co50)) (fun _ hk => hk.2) (.slice Ao52 t283.length co52)) (fun _ h_ => h_.1)))); (case side6 => exact (Kd.R_reads' HO265.out).2.1); (case side7 => refine (Kd.R_reads' (e := 3) (base := w.heap.size) (ok := fun k_ => (nV k_ v256 ∧ (nV k_ v259 ∧ (nS k_ Ao30 t263.length co30 ∧ (nS k_ Ao38 t271.length co38 ∧ (nS k_ Ao43 t274.length co43 ∧ (nS k_ Ao50 t280.length co50 ∧ nS k_ Ao52 t283.length co52))))))) (n := t266.length) (c := co32) ?_).2.2; exact (by (with_reducible repeat (first | apply Kd.R_alloc | apply Kd.R_drewN | apply Kd.R_drew)); exact (Kd.R_mono (Kd.R_far (p := ⟨gb287, 1, none⟩) (Kd.R_far (p := ⟨gb287, 0, none⟩) (Kd.R_types HO268.out BK287.out (by decide)) (fun _ hk => hk.2) (.slice Ao50 t280.length co50)) (fun _ hk => hk.2) (.slice Ao52 t283.length co52)) (fun _ h_ => h_.1)))); (case side8 => exact (Kd.R_reads' HO268.out).2.1); rintro e w65 ⟨rfl, hb⟩; refine ⟨_, rfl, ?_⟩; replace HO257 := Aside0.mk (Kd.R_below (by (with_reducible repeat (first | apply Kd.R_alloc | apply Kd.R_drewN | apply Kd.R_drew)); exact (Kd.R_mono (Kd.R_far (p := ⟨gb287, 1, none⟩) (Kd.R_far (p := ⟨gb287, 0, none⟩) (Kd.R_types HO257.out BK287.out (by decide)) (fun _ hk => hk.2) (.slice Ao50 t280.length co50)) (fun _ hk => hk.2) (.slice Ao52 t283.length co52)) (fun _ h_ => h_.1))) hb); replace HO260 := Aside0.mk (Kd.R_below (by (with_reducible repeat (first | apply Kd.R_alloc | apply Kd.R_drewN | apply Kd.R_drew)); exact (Kd.R_mono (Kd.R_far (p := ⟨gb287, 1, none⟩) (Kd.R_far (p := ⟨gb287, 0, none⟩) (Kd.R_types HO260.out BK287.out (by decide)) (fun _ hk => hk.2) (.slice Ao50 t280.length co50)) (fun _ hk => hk.2) (.slice Ao52 t283.length co52)) (fun _ h_ => h_.1))) hb); replace HO265 := Aside0.mk (Kd.R_below (by (with_reducible repeat (first | apply Kd.R_alloc | apply Kd.R_drewN | apply Kd.R_drew)); exact (Kd.R_mono (Kd.R_far (p := ⟨gb287, 1, none⟩) (Kd.R_far (p := ⟨gb287, 0, none⟩) (Kd.R_types HO265.out BK287.out (by decide)) (fun _ hk => hk.2) (.slice Ao50 t280.length co50)) (fun _ hk => hk.2) (.slice Ao52 t283.length co52)) (fun _ h_ => h_.1))) hb); replace HO268 := Aside0.mk (Kd.R_below (by (with_reducible repeat (first | apply Kd.R_alloc | apply Kd.R_drewN | apply Kd.R_drew)); exact (Kd.R_mono (Kd.R_far (p := ⟨gb287, 1, none⟩) (Kd.R_far (p := ⟨gb287, 0, none⟩) (Kd.R_types HO268.out BK287.out (by decide)) (fun _ hk => hk.2) (.slice Ao50 t280.length co50)) (fun _ hk => hk.2) (.slice Ao52 t283.length co52)) (fun _ h_ => h_.1))) hb); replace HO273 := Aside0.mk (Kd.R_below (by (with_reducible repeat (first | apply Kd.R_alloc | apply Kd.R_drewN | apply Kd.R_drew)); exact (Kd.R_mono (Kd.R_far (p := ⟨gb287, 1, none⟩) (Kd.R_far (p := ⟨gb287, 0, none⟩) (Kd.R_types HO273.out BK287.out (by decide)) (fun _ hk => hk.2) (.slice Ao50 t280.length co50)) (fun _ hk => hk.2) (.slice Ao52 t283.length co52)) (fun _ h_ => h_.1))) hb); replace HO276 := Aside0.mk (Kd.R_below (by (with_reducible repeat (first | apply Kd.R_alloc | apply Kd.R_drewN | apply Kd.R_drew)); exact (Kd.R_mono (Kd.R_far (p := ⟨gb287, 1, none⟩) (Kd.R_far (p := ⟨gb287, 0, none⟩) (Kd.R_types HO276.out BK287.out (by decide)) (fun _ hk => hk.2) (.slice Ao50 t280.length co50)) (fun _ hk => hk.2) (.slice Ao52 t283.length co52)) (fun _ h_ => h_.1))) hb); replace HO282 := Aside0.mk (Kd.R_below (by (with_reducible repeat (first | apply Kd.R_alloc | apply Kd.R_drewN | apply Kd.R_drew)); exact (Kd.R_mono (Kd.R_far (p := ⟨gb287, 1, none⟩) (Kd.R_far (p := ⟨gb287, 0, none⟩) (Kd.R_types HO282.out BK287.out (by decide)) (fun _ hk => hk.2) (.slice Ao50 t280.length co50)) (fun _ hk => hk.2) (.slice Ao52 t283.length co52)) (fun _ h_ => h_.1))) hb); replace HO285 := Aside0.mk (Kd.R_below (by (with_reducible repeat (first | apply Kd.R_alloc | apply Kd.R_drewN | apply Kd.R_drew)); exact (Kd.R_mono (Kd.R_far (p := ⟨gb287, 1, none⟩) (Kd.R_far (p := ⟨gb287, 0, none⟩) (Kd.R_types HO285.out BK287.out (by decide)) (fun _ hk => hk.2) (.slice Ao50 t280.length co50)) (fun _ hk => hk.2) (.slice Ao52 t283.length co52)) (fun _ h_ => h_.1))) hb); replace BK252 := Aside0.mk (blk_below (g := gb252) (o := .cells #[.slice A0_0 l0_0.length c0_0, .slice A0_1 l0_1.length c0_1] 24 (0, 0)) (xff NB252_287.out NB252_287.out BK252.out) hb); replace BK253 := Aside0.mk (blk_below (g := gb253) (o := .cells #[.int .i64 a1_0, .int .i64 a1_1] 39 (0, 0)) (xff NB253_287.out NB253_287.out BK253.out) hb); replace BK270 := Aside0.mk (blk_below (g := gb270) (o := .cells #[.slice Ao30 t263.length co30, .slice Ao32 t266.length co32] 26 (0, 0)) (xff NB270_287.out NB270_287.out BK270.out) hb); replace BK277 := Aside0.mk (blk_below (g := gb277) (o := .cells #[.slice Ao38 t271.length co38, .slice Ao43 t274.length co43] 26 (0, 0)) (xff NB277_287.out NB277_287.out BK277.out) hb); replace BK287 := Aside0.mk (blk_below (g := gb287) (o := .cells #[.slice Ao50 t280.length co50, .slice Ao52 t283.length co52] 26 (0, 0)) (by (with_reducible repeat (first | refine blk_drewN ?_ _ | refine blk_drew ?_ | refine blk_alloc ?_ _)); refine blk_put (cs := #[.slice Ao50 t280.length co50, .slice none 0 0]) ?_ 1 _ rfl; (with_reducible repeat (first | refine blk_drewN ?_ _ | refine blk_drew ?_ | refine blk_alloc ?_ _)); refine blk_put (cs := #[.slice none 0 0, .slice none 0 0]) ?_ 0 _ rfl; (with_reducible repeat (first | refine blk_drewN ?_ _ | refine blk_drew ?_ | refine blk_alloc ?_ _)); exact BK287.out) hb); replace HB := xp HB hb; (try clear hb); (try clear hb2); (try clear hk); (try clear hi)))
    go_meet
    case rel => exact ⟨_, ((t286 != t269)), (by first | rfl | (simp; done) | (simp [*]; done)), H', ⟨by first | omega | exact Nat.le_refl _⟩, ⟨xm HO265 (fun _ hk => ⟨hk.2.2.1, ⟨hk.2.2.2.1, ⟨hk.2.2.2.2.1, ⟨hk.2.2.2.2.2.1, hk.2.2.2.2.2.2⟩⟩⟩⟩)⟩, ⟨xm HO268 (fun _ hk => ⟨hk.2.2.1, ⟨hk.2.2.2.1, ⟨hk.2.2.2.2.1, ⟨hk.2.2.2.2.2.1, hk.2.2.2.2.2.2⟩⟩⟩⟩)⟩, ⟨xm HO273 (fun _ hk => ⟨hk.2.2.1, ⟨hk.2.2.2.1, ⟨hk.2.2.2.2.1, ⟨hk.2.2.2.2.2.1, hk.2.2.2.2.2.2⟩⟩⟩⟩)⟩, ⟨xm HO276 (fun _ hk => ⟨hk.2.2.1, ⟨hk.2.2.2.1, ⟨hk.2.2.2.2.1, ⟨hk.2.2.2.2.2.1, hk.2.2.2.2.2.2⟩⟩⟩⟩)⟩, ⟨xm HO282 (fun _ hk => ⟨hk.2.2.1, ⟨hk.2.2.2.1, ⟨hk.2.2.2.2.1, ⟨hk.2.2.2.2.2.1, hk.2.2.2.2.2.2⟩⟩⟩⟩)⟩, ⟨xm HO285 (fun _ hk => ⟨hk.2.2.1, ⟨hk.2.2.2.1, ⟨hk.2.2.2.2.1, ⟨hk.2.2.2.2.2.1, hk.2.2.2.2.2.2⟩⟩⟩⟩)⟩, ⟨xb BK252.out⟩, ⟨xb BK253.out⟩, ⟨xb BK270.out⟩, ⟨xb BK277.out⟩, ⟨xb BK287.out⟩, ⟨xs HB.out⟩⟩
   ·replace c55 := Bool.eq_false_iff.mpr c55
    subst c55
    have H1 : (laws_FnExactMakeMove.j0 k t269 t286 true l0_0 l0_1 a1_0 a1_1 t263 t266 t271 t274 t280 t283) = some true := by first | (rw [if_neg (show ¬ (false = true) by decide)] at H; exact H) | rfl
    clear H
    have H := H1
    clear H1
    have H' := Aside0.mk H
    clear H
    have hnb66 := NB287_252.out
    have hnc66 := NB252_287.out
    have hnb67 := NB287_253.out
    have hnc67 := NB253_287.out
    have hnb68 := NB287_270.out
    have hnc68 := NB270_287.out
    have hnb69 := NB287_277.out
    have hnc69 := NB277_287.out
    have hcz70_0 : w49.cell? ⟨gb287, 0, none⟩ = some (.slice none 0 0) := (blk_cell BK287.out 0).trans rfl
    have hcz70_1 : w49.cell? ⟨gb287, 1, none⟩ = some (.slice none 0 0) := (blk_cell BK287.out 1).trans rfl
    have hfz70_0 := blk_frozen BK287.out 0
    have hfz70_1 := blk_frozen BK287.out 1
    have hnb71 := NB270_252.out
    have hnc71 := NB252_270.out
    have hnb72 := NB270_253.out
    have hnc72 := NB253_270.out
    have hnb73 := NB270_277.out
    have hnc73 := NB277_270.out
    have hcz74_0 : w49.cell? ⟨gb270, 0, none⟩ = some (.slice Ao30 t263.length co30) := (blk_cell BK270.out 0).trans rfl
    have hcz74_1 : w49.cell? ⟨gb270, 1, none⟩ = some (.slice Ao32 t266.length co32) := (blk_cell BK270.out 1).trans rfl
    have hfz74_0 := blk_frozen BK270.out 0
    have hfz74_1 := blk_frozen BK270.out 1
    go_wp2_with (first | ((with_reducible refine gate_callee (f := 19) rfl ?_); refine goesL_ (some 40) rfl rfl Try.func19 (by kernel_rfl) rfl #[.agg #[.slice Ao50 t280.length co50, .slice Ao52 t283.length co52], .agg #[.slice Ao30 t263.length co30, .slice Ao32 t266.length co32]] rfl (by (try simp only [List.map_toArray, List.map_cons, List.map_nil]); first | done | rfl | (simp only [List.length_drop, List.length_take]; rfl)) ?_; (with_reducible refine (laws_eqVessels.calls k _ _ t280 _ _ t283 _ _ t263 _ _ t266 false _ ?side1 ?side2 ?side3 ?side4 ?side5 ?side6 ?side7 ?side8 A54.out).mono ?_); (case side1 => refine (Kd.R_reads' (e := 3) (base := w.heap.size) (ok := fun k_ => (nV k_ v256 ∧ (nV k_ v259 ∧ (nS k_ Ao30 t263.length co30 ∧ (nS k_ Ao32 t266.length co32 ∧ (nS k_ Ao38 t271.length co38 ∧ (nS k_ Ao43 t274.length co43 ∧ nS k_ Ao52 t283.length co52))))))) (n := t280.length) (c := co50) ?_).2.2; exact (by (with_reducible repeat (first | apply Kd.R_alloc | apply Kd.R_drewN | apply Kd.R_drew)); exact (Kd.R_mono (Kd.R_far (p := ⟨gb287, 1, none⟩) (Kd.R_far (p := ⟨gb287, 0, none⟩) (Kd.R_types HO282.out BK287.out (by decide)) (fun _ hk => hk.2) (.slice Ao50 t280.length co50)) (fun _ hk => hk.2) (.slice Ao52 t283.length co52)) (fun _ h_ => h_.1)))); (case side2 => exact (Kd.R_reads' HO282.out).2.1); (case side3 => refine (Kd.R_reads' (e := 3) (base := w.heap.size) (ok := fun k_ => (nV k_ v256 ∧ (nV k_ v259 ∧ (nS k_ Ao30 t263.length co30 ∧ (nS k_ Ao32 t266.length co32 ∧ (nS k_ Ao38 t271.length co38 ∧ (nS k_ Ao43 t274.length co43 ∧ nS k_ Ao50 t280.length co50))))))) (n := t283.length) (c := co52) ?_).2.2; exact (by (with_reducible repeat (first | apply Kd.R_alloc | apply Kd.R_drewN | apply Kd.R_drew)); exact (Kd.R_mono (Kd.R_far (p := ⟨gb287, 1, none⟩) (Kd.R_far (p := ⟨gb287, 0, none⟩) (Kd.R_types HO285.out BK287.out (by decide)) (fun _ hk => hk.2) (.slice Ao50 t280.length co50)) (fun _ hk => hk.2) (.slice Ao52 t283.length co52)) (fun _ h_ => h_.1)))); (case side4 => exact (Kd.R_reads' HO285.out).2.1); (case side5 => refine (Kd.R_reads' (e := 3) (base := w.heap.size) (ok := fun k_ => (nV k_ v256 ∧ (nV k_ v259 ∧ (nS k_ Ao32 t266.length co32 ∧ (nS k_ Ao38 t271.length co38 ∧ (nS k_ Ao43 t274.length co43 ∧ (nS k_ Ao50 t280.length co50 ∧ nS k_ Ao52 t283.length co52))))))) (n := t263.length) (c := co30) ?_).2.2; exact (by (with_reducible repeat (first | apply Kd.R_alloc | apply Kd.R_drewN | apply Kd.R_drew)); exact (Kd.R_mono (Kd.R_far (p := ⟨gb287, 1, none⟩) (Kd.R_far (p := ⟨gb287, 0, none⟩) (Kd.R_types HO265.out BK287.out (by decide)) (fun _ hk => hk.2) (.slice Ao50 t280.length co50)) (fun _ hk => hk.2) (.slice Ao52 t283.length co52)) (fun _ h_ => h_.1)))); (case side6 => exact (Kd.R_reads' HO265.out).2.1); (case side7 => refine (Kd.R_reads' (e := 3) (base := w.heap.size) (ok := fun k_ => (nV k_ v256 ∧ (nV k_ v259 ∧ (nS k_ Ao30 t263.length co30 ∧ (nS k_ Ao38 t271.length co38 ∧ (nS k_ Ao43 t274.length co43 ∧ (nS k_ Ao50 t280.length co50 ∧ nS k_ Ao52 t283.length co52))))))) (n := t266.length) (c := co32) ?_).2.2; exact (by (with_reducible repeat (first | apply Kd.R_alloc | apply Kd.R_drewN | apply Kd.R_drew)); exact (Kd.R_mono (Kd.R_far (p := ⟨gb287, 1, none⟩) (Kd.R_far (p := ⟨gb287, 0, none⟩) (Kd.R_types HO268.out BK287.out (by decide)) (fun _ hk => hk.2) (.slice Ao50 t280.length co50)) (fun _ hk => hk.2) (.slice Ao52 t283.length co52)) (fun _ h_ => h_.1)))); (case side8 => exact (Kd.R_reads' HO268.out).2.1); rintro e w75 ⟨rfl, hb⟩; refine ⟨_, rfl, ?_⟩; replace HO257 := Aside0.mk (Kd.R_below (by (with_reducible repeat (first | apply Kd.R_alloc | apply Kd.R_drewN | apply Kd.R_drew)); exact (Kd.R_mono (Kd.R_far (p := ⟨gb287, 1, none⟩) (Kd.R_far (p := ⟨gb287, 0, none⟩) (Kd.R_types HO257.out BK287.out (by decide)) (fun _ hk => hk.2) (.slice Ao50 t280.length co50)) (fun _ hk => hk.2) (.slice Ao52 t283.length co52)) (fun _ h_ => h_.1))) hb); replace HO260 := Aside0.mk (Kd.R_below (by (with_reducible repeat (first | apply Kd.R_alloc | apply Kd.R_drewN | apply Kd.R_drew)); exact (Kd.R_mono (Kd.R_far (p := ⟨gb287, 1, none⟩) (Kd.R_far (p := ⟨gb287, 0, none⟩) (Kd.R_types HO260.out BK287.out (by decide)) (fun _ hk => hk.2) (.slice Ao50 t280.length co50)) (fun _ hk => hk.2) (.slice Ao52 t283.length co52)) (fun _ h_ => h_.1))) hb); replace HO265 := Aside0.mk (Kd.R_below (by (with_reducible repeat (first | apply Kd.R_alloc | apply Kd.R_drewN | apply Kd.R_drew)); exact (Kd.R_mono (Kd.R_far (p := ⟨gb287, 1, none⟩) (Kd.R_far (p := ⟨gb287, 0, none⟩) (Kd.R_types HO265.out BK287.out (by decide)) (fun _ hk => hk.2) (.slice Ao50 t280.length co50)) (fun _ hk => hk.2) (.slice Ao52 t283.length co52)) (fun _ h_ => h_.1))) hb); replace HO268 := Aside0.mk (Kd.R_below (by (with_reducible repeat (first | apply Kd.R_alloc | apply Kd.R_drewN | apply Kd.R_drew)); exact (Kd.R_mono (Kd.R_far (p := ⟨gb287, 1, none⟩) (Kd.R_far (p := ⟨gb287, 0, none⟩) (Kd.R_types HO268.out BK287.out (by decide)) (fun _ hk => hk.2) (.slice Ao50 t280.length co50)) (fun _ hk => hk.2) (.slice Ao52 t283.length co52)) (fun _ h_ => h_.1))) hb); replace HO273 := Aside0.mk (Kd.R_below (by (with_reducible repeat (first | apply Kd.R_alloc | apply Kd.R_drewN | apply Kd.R_drew)); exact (Kd.R_mono (Kd.R_far (p := ⟨gb287, 1, none⟩) (Kd.R_far (p := ⟨gb287, 0, none⟩) (Kd.R_types HO273.out BK287.out (by decide)) (fun _ hk => hk.2) (.slice Ao50 t280.length co50)) (fun _ hk => hk.2) (.slice Ao52 t283.length co52)) (fun _ h_ => h_.1))) hb); replace HO276 := Aside0.mk (Kd.R_below (by (with_reducible repeat (first | apply Kd.R_alloc | apply Kd.R_drewN | apply Kd.R_drew)); exact (Kd.R_mono (Kd.R_far (p := ⟨gb287, 1, none⟩) (Kd.R_far (p := ⟨gb287, 0, none⟩) (Kd.R_types HO276.out BK287.out (by decide)) (fun _ hk => hk.2) (.slice Ao50 t280.length co50)) (fun _ hk => hk.2) (.slice Ao52 t283.length co52)) (fun _ h_ => h_.1))) hb); replace HO282 := Aside0.mk (Kd.R_below (by (with_reducible repeat (first | apply Kd.R_alloc | apply Kd.R_drewN | apply Kd.R_drew)); exact (Kd.R_mono (Kd.R_far (p := ⟨gb287, 1, none⟩) (Kd.R_far (p := ⟨gb287, 0, none⟩) (Kd.R_types HO282.out BK287.out (by decide)) (fun _ hk => hk.2) (.slice Ao50 t280.length co50)) (fun _ hk => hk.2) (.slice Ao52 t283.length co52)) (fun _ h_ => h_.1))) hb); replace HO285 := Aside0.mk (Kd.R_below (by (with_reducible repeat (first | apply Kd.R_alloc | apply Kd.R_drewN | apply Kd.R_drew)); exact (Kd.R_mono (Kd.R_far (p := ⟨gb287, 1, none⟩) (Kd.R_far (p := ⟨gb287, 0, none⟩) (Kd.R_types HO285.out BK287.out (by decide)) (fun _ hk => hk.2) (.slice Ao50 t280.length co50)) (fun _ hk => hk.2) (.slice Ao52 t283.length co52)) (fun _ h_ => h_.1))) hb); replace BK252 := Aside0.mk (blk_below (g := gb252) (o := .cells #[.slice A0_0 l0_0.length c0_0, .slice A0_1 l0_1.length c0_1] 24 (0, 0)) (xff NB252_287.out NB252_287.out BK252.out) hb); replace BK253 := Aside0.mk (blk_below (g := gb253) (o := .cells #[.int .i64 a1_0, .int .i64 a1_1] 39 (0, 0)) (xff NB253_287.out NB253_287.out BK253.out) hb); replace BK270 := Aside0.mk (blk_below (g := gb270) (o := .cells #[.slice Ao30 t263.length co30, .slice Ao32 t266.length co32] 26 (0, 0)) (xff NB270_287.out NB270_287.out BK270.out) hb); replace BK277 := Aside0.mk (blk_below (g := gb277) (o := .cells #[.slice Ao38 t271.length co38, .slice Ao43 t274.length co43] 26 (0, 0)) (xff NB277_287.out NB277_287.out BK277.out) hb); replace BK287 := Aside0.mk (blk_below (g := gb287) (o := .cells #[.slice Ao50 t280.length co50, .slice Ao52 t283.length co52] 26 (0, 0)) (by (with_reducible repeat (first | refine blk_drewN ?_ _ | refine blk_drew ?_ | refine blk_alloc ?_ _)); refine blk_put (cs := #[.slice Ao50 t280.length co50, .slice none 0 0]) ?_ 1 _ rfl; (with_reducible repeat (first | refine blk_drewN ?_ _ | refine blk_drew ?_ | refine blk_alloc ?_ _)); refine blk_put (cs := #[.slice none 0 0, .slice none 0 0]) ?_ 0 _ rfl; (with_reducible repeat (first | refine blk_drewN ?_ _ | refine blk_drew ?_ | refine blk_alloc ?_ _)); exact BK287.out) hb); replace HB := xp HB hb; (try clear hb); (try clear hb2); (try clear hk); (try clear hi)))
    go_meet
    case rel => exact ⟨_, (true), (by first | rfl | (simp; done) | (simp [*]; done)), H', ⟨by first | omega | exact Nat.le_refl _⟩, ⟨xm HO265 (fun _ hk => ⟨hk.2.2.1, ⟨hk.2.2.2.1, ⟨hk.2.2.2.2.1, ⟨hk.2.2.2.2.2.1, hk.2.2.2.2.2.2⟩⟩⟩⟩)⟩, ⟨xm HO268 (fun _ hk => ⟨hk.2.2.1, ⟨hk.2.2.2.1, ⟨hk.2.2.2.2.1, ⟨hk.2.2.2.2.2.1, hk.2.2.2.2.2.2⟩⟩⟩⟩)⟩, ⟨xm HO273 (fun _ hk => ⟨hk.2.2.1, ⟨hk.2.2.2.1, ⟨hk.2.2.2.2.1, ⟨hk.2.2.2.2.2.1, hk.2.2.2.2.2.2⟩⟩⟩⟩)⟩, ⟨xm HO276 (fun _ hk => ⟨hk.2.2.1, ⟨hk.2.2.2.1, ⟨hk.2.2.2.2.1, ⟨hk.2.2.2.2.2.1, hk.2.2.2.2.2.2⟩⟩⟩⟩)⟩, ⟨xm HO282 (fun _ hk => ⟨hk.2.2.1, ⟨hk.2.2.2.1, ⟨hk.2.2.2.2.1, ⟨hk.2.2.2.2.2.1, hk.2.2.2.2.2.2⟩⟩⟩⟩)⟩, ⟨xm HO285 (fun _ hk => ⟨hk.2.2.1, ⟨hk.2.2.2.1, ⟨hk.2.2.2.2.1, ⟨hk.2.2.2.2.2.1, hk.2.2.2.2.2.2⟩⟩⟩⟩)⟩, ⟨xb BK252.out⟩, ⟨xb BK253.out⟩, ⟨xb BK270.out⟩, ⟨xb BK277.out⟩, ⟨xb BK287.out⟩, ⟨xs HB.out⟩⟩
  case rest =>
   clear HC16
   try clear c1
   try clear c2
   try clear p2
   try clear c5
   try clear c6
   try clear c7
   try clear c19
   try clear c27
   try clear c28
   try clear c55
   try clear c56
   try clear c57
   try clear c58
   try clear c59
   try clear c61
   try clear c62
   try clear c63
   try clear c66
   try clear c67
   try clear c68
   try clear c69
   try clear c71
   try clear c72
   try clear c73
   try clear hcz60_0
   try clear hcz60_1
   try clear hcz64_0
   try clear hcz64_1
   try clear hcz70_0
   try clear hcz70_1
   try clear hcz74_0
   try clear hcz74_1
   try clear hfz60_0
   try clear hfz60_1
   try clear hfz64_0
   try clear hfz64_1
   try clear hfz70_0
   try clear hfz70_1
   try clear hfz74_0
   try clear hfz74_1
   obtain ⟨kq, x46_15, rfl, HA, HJ15, HO_271000, HO_271001, HO_278000, HO_278001, HO_288000, HO_288001, BK252, BK253, BK270, BK277, BK287, HB⟩ := hcut
   cases kq with
   | zero => exact absurd HA.out (by simp [laws_FnExactMakeMove.j0])
   | succ kj15 =>
    have H := HA.out
    clear HA
    simp only [laws_FnExactMakeMove.j0] at H
    by_cases c76 : x46_15 = true
    ·subst c76
     have H1 : (some false) = some true := by first | (rw [if_pos rfl] at H; exact H) | rfl
     clear H
     have H := H1
     clear H1
     exact absurd H (by simp)
    ·replace c76 := Bool.eq_false_iff.mpr c76
     subst c76
     have H1 : ((laws_toVessels.f kj15 l0_0 l0_1).bind fun bt289 => ((laws_eqVessels.f kj15 t271 t274 bt289.1 bt289.2).bind fun t295 => (if t295 = true then ((laws_markVessels.f kj15 t271 t274 1).bind fun bt296 => (if bt296.1 < 0 then (laws_FnExactMakeMove.j1 kj15 t269 true l0_0 l0_1 a1_0 a1_1 t263 t266 t280 t283) else ((laws_eqVessels.f kj15 t280 t283 t263 t266).bind fun t299 => (if t299 = true then (laws_FnExactMakeMove.j1 kj15 t269 (t286 != t269) l0_0 l0_1 a1_0 a1_1 t263 t266 t280 t283) else (laws_FnExactMakeMove.j1 kj15 t269 true l0_0 l0_1 a1_0 a1_1 t263 t266 t280 t283))))) else (some false)))) = some true := by first | (rw [if_neg (show ¬ (false = true) by decide)] at H; exact H) | rfl
     clear H
     have H := H1
     clear H1
     replace H := Option.bind_eq_some_iff.mp H
     obtain ⟨⟨t289, t292⟩, A770, H⟩ := H
     replace H : ((laws_eqVessels.f kj15 t271 t274 t289 t292).bind fun t295 => (if t295 = true then ((laws_markVessels.f kj15 t271 t274 1).bind fun bt296 => (if bt296.1 < 0 then (laws_FnExactMakeMove.j1 kj15 t269 true l0_0 l0_1 a1_0 a1_1 t263 t266 t280 t283) else ((laws_eqVessels.f kj15 t280 t283 t263 t266).bind fun t299 => (if t299 = true then (laws_FnExactMakeMove.j1 kj15 t269 (t286 != t269) l0_0 l0_1 a1_0 a1_1 t263 t266 t280 t283) else (laws_FnExactMakeMove.j1 kj15 t269 true l0_0 l0_1 a1_0 a1_1 t263 t266 t280 t283))))) else (some false))) = some true := H
     have A77 := Aside0.mk A770
     clear A770
     replace H := Option.bind_eq_some_iff.mp H
     obtain ⟨t295, A780, H⟩ := H
     replace H : (if t295 = true then ((laws_markVessels.f kj15 t271 t274 1).bind fun bt296 => (if bt296.1 < 0 then (laws_FnExactMakeMove.j1 kj15 t269 true l0_0 l0_1 a1_0 a1_1 t263 t266 t280 t283) else ((laws_eqVessels.f kj15 t280 t283 t263 t266).bind fun t299 => (if t299 = true then (laws_FnExactMakeMove.j1 kj15 t269 (t286 != t269) l0_0 l0_1 a1_0 a1_1 t263 t266 t280 t283) else (laws_FnExactMakeMove.j1 kj15 t269 true l0_0 l0_1 a1_0 a1_1 t263 t266 t280 t283))))) else (some false)) = some true := H
     have A78 := Aside0.mk A780
     clear A780
     by_cases c79 : t295 = true
     ·subst c79
      have H1 : ((laws_markVessels.f kj15 t271 t274 1).bind fun bt296 => (if bt296.1 < 0 then (laws_FnExactMakeMove.j1 kj15 t269 true l0_0 l0_1 a1_0 a1_1 t263 t266 t280 t283) else ((laws_eqVessels.f kj15 t280 t283 t263 t266).bind fun t299 => (if t299 = true then (laws_FnExactMakeMove.j1 kj15 t269 (t286 != t269) l0_0 l0_1 a1_0 a1_1 t263 t266 t280 t283) else (laws_FnExactMakeMove.j1 kj15 t269 true l0_0 l0_1 a1_0 a1_1 t263 t266 t280 t283))))) = some true := by first | (rw [if_pos rfl] at H; exact H) | rfl
      clear H
      have H := H1
      clear H1
      replace H := Option.bind_eq_some_iff.mp H
      obtain ⟨⟨t296, t297, t298⟩, A800, H⟩ := H
      replace H : (if t296 < 0 then (laws_FnExactMakeMove.j1 kj15 t269 true l0_0 l0_1 a1_0 a1_1 t263 t266 t280 t283) else ((laws_eqVessels.f kj15 t280 t283 t263 t266).bind fun t299 => (if t299 = true then (laws_FnExactMakeMove.j1 kj15 t269 (t286 != t269) l0_0 l0_1 a1_0 a1_1 t263 t266 t280 t283) else (laws_FnExactMakeMove.j1 kj15 t269 true l0_0 l0_1 a1_0 a1_1 t263 t266 t280 t283)))) = some true := H
      have A80 := Aside0.mk A800
      clear A800
      have HC81 := Aside0.mk H
      clear H
      try go_wp2
      replace HO_271000 := xw HO_271000
      replace HO_271001 := xw HO_271001
      replace HO_278000 := xw HO_278000
      replace HO_278001 := xw HO_278001
      replace HO_288000 := xw HO_288000
      replace HO_288001 := xw HO_288001
      replace BK252 := xv BK252
      replace BK253 := xv BK253
      replace BK270 := xv BK270
      replace BK277 := xv BK277
      replace BK287 := xv BK287
      replace HB := Aside0.mk (below_drew1 HB.out)
      refine start_ (n := 5) (S := fun w' => w'.cell? ⟨gb277, 0, none⟩ = some (.slice Ao38 t271.length co38) ∧ w'.cell? ⟨gb277, 1, none⟩ = some (.slice Ao43 t274.length co43) ∧ w'.cell? ⟨gb252, 0, none⟩ = some (.slice A0_0 l0_0.length c0_0) ∧ w'.cell? ⟨gb252, 1, none⟩ = some (.slice A0_1 l0_1.length c0_1)) (ds := []) #[false, false, false, false, false] (by kernel_rfl) rfl rfl ⟨(blk_cell BK277.out 0).trans rfl, (blk_cell BK277.out 1).trans rfl, (blk_cell BK252.out 0).trans rfl, (blk_cell BK252.out 1).trans rfl⟩ (fun hHeld => ?_)
      generalize wc.drew = w82 at HO_271000 HO_271001 HO_278000 HO_278001 HO_288000 HO_288001 BK252 BK253 BK270 BK277 BK287 HB hHeld ⊢
      refine take_ (i := 0) (N := some 47) (v := ?_) (a' := ?_) #[true, false, false, false, false] rfl rfl (by kernel_rfl) (fun _ _ _ h => h) (Or.inl ⟨by rfl, ?_⟩) hHeld ?_ ?_
      rotate_left
      ·rintro w' ⟨s0, s1, s2, s3⟩
       go_simp
       with_reducible rfl
      rotate_left
      ·simp only [Act.put, List.setIfInBounds_toArray, List.set_cons_zero, List.set_cons_succ, i64_w, i32_w]
       rfl
      refine take_ (i := 1) (N := some 48) (v := ?_) (a' := ?_) #[true, true, false, false, false] rfl rfl (by kernel_rfl) (fun _ _ _ h => h) (Or.inl ⟨by rfl, ?_⟩) hHeld ?_ ?_
      rotate_left
      ·rintro w' ⟨s0, s1, s2, s3⟩
       go_simp
       with_reducible rfl
      rotate_left
      ·simp only [Act.put, List.setIfInBounds_toArray, List.set_cons_zero, List.set_cons_succ, i64_w, i32_w]
       rfl
      refine one_ (i := 2) (N := some 49) #[true, true, true, false, false] rfl rfl (by kernel_rfl) (by decide) (fun K hK => ?_)
      refine goes_ Try.func17 (by kernel_rfl) rfl #[.agg #[.slice A0_0 l0_0.length c0_0, .slice A0_1 l0_1.length c0_1]] (by rfl) rfl rfl (by (try simp only [List.map_toArray, List.map_cons, List.map_nil]); first | done | rfl | (simp only [List.length_drop, List.length_take]; rfl)) ?_
      with_reducible refine (laws_toVessels.calls kj15 _ _ l0_0 _ _ l0_1 t289 t292 _ ?side1 ?side2 ?side3 ?side4 A77.out).mono ?_
      (case side1 => exact xd ((Kd.C_below HR0_0.out HB.out)))
      (case side2 => exact HC0_0.out)
      (case side3 => exact xd ((Kd.C_below HR0_1.out HB.out)))
      (case side4 => exact HC0_1.out)
      rintro e w83 ⟨v290, v293, rfl, ho0, ho1, hb⟩
      refine ⟨_, rfl, ?_⟩
      have HO291 := Aside0.mk (Kd.R_lower (Kd.R_new' (Kd.R_new' (Kd.R_new' (Kd.R_new' (Kd.R_new' (Kd.R_new' ho0 (Kd.R_lt (xr HO_271000.out))) (Kd.R_lt (xr HO_271001.out))) (Kd.R_lt (xr HO_278000.out))) (Kd.R_lt (xr HO_278001.out))) (Kd.R_lt (xr HO_288000.out))) (Kd.R_lt (xr HO_288001.out))) (below_size (xs HB.out)))
      have HO294 := Aside0.mk (Kd.R_lower (Kd.R_new' (Kd.R_new' (Kd.R_new' (Kd.R_new' (Kd.R_new' (Kd.R_new' ho1 (Kd.R_lt (xr HO_271000.out))) (Kd.R_lt (xr HO_271001.out))) (Kd.R_lt (xr HO_278000.out))) (Kd.R_lt (xr HO_278001.out))) (Kd.R_lt (xr HO_288000.out))) (Kd.R_lt (xr HO_288001.out))) (below_size (xs HB.out)))
      replace HO_271000 := xt HO_271000 hb ho0 ho1
      replace HO_271001 := xt HO_271001 hb ho0 ho1
      replace HO_278000 := xt HO_278000 hb ho0 ho1
      replace HO_278001 := xt HO_278001 hb ho0 ho1
      replace HO_288000 := xt HO_288000 hb ho0 ho1
      replace HO_288001 := xt HO_288001 hb ho0 ho1
      replace BK252 := xk BK252 hb
      replace BK253 := xk BK253 hb
      replace BK270 := xk BK270 hb
      replace BK277 := xk BK277 hb
      replace BK287 := xk BK287 hb
      replace HB := xp HB hb
      (try clear hb)
      (try clear hb2)
      (try clear hk)
      (try clear hi)
      (try clear ho0)
      (try clear ho1)
      obtain ⟨Ao84, co84, eo84⟩ := Kd.R_slice HO291.out
      (first | subst eo84 | (injection eo84 with f1_ f2_ f3_; have f4_ := f1_.symm; have f5_ := f3_.symm; clear f1_ f2_ f3_; subst f4_; subst f5_))
      obtain ⟨Ao85, co85, eo85⟩ := Kd.R_slice HO294.out
      (first | subst eo85 | (injection eo85 with f1_ f2_ f3_; have f4_ := f1_.symm; have f5_ := f3_.symm; clear f1_ f2_ f3_; subst f4_; subst f5_))
      refine hK.out _ _ ⟨(blk_cell BK277.out 0).trans rfl, (blk_cell BK277.out 1).trans rfl, (blk_cell BK252.out 0).trans rfl, (blk_cell BK252.out 1).trans rfl⟩ (fun hHeld => ?_)
      clear hK K
      refine norm_ (a' := ?_) ?_ ?_
      rotate_left
      ·show Act.put _ (some 49) _ = _
       simp only [Act.put, List.setIfInBounds_toArray, List.set_cons_zero, List.set_cons_succ, i64_w, i32_w]
       rfl
      refine one_ (i := 3) (N := some 50) #[true, true, true, true, false] rfl rfl (by kernel_rfl) (by decide) (fun K hK => ?_)
      refine goes_ Try.func19 (by kernel_rfl) rfl #[.agg #[.slice Ao38 t271.length co38, .slice Ao43 t274.length co43], .agg #[.slice Ao84 t289.length co84, .slice Ao85 t292.length co85]] (by rfl) rfl rfl (by (try simp only [List.map_toArray, List.map_cons, List.map_nil]); first | done | rfl | (simp only [List.length_drop, List.length_take]; rfl)) ?_
      with_reducible refine (laws_eqVessels.calls kj15 _ _ t271 _ _ t274 _ _ t289 _ _ t292 true _ ?side1 ?side2 ?side3 ?side4 ?side5 ?side6 ?side7 ?side8 A78.out).mono ?_
      (case side1 => exact xd ((Kd.R_reads' HO_278000.out).2.2))
      (case side2 => exact (Kd.R_reads' HO_278000.out).2.1)
      (case side3 => exact xd ((Kd.R_reads' HO_278001.out).2.2))
      (case side4 => exact (Kd.R_reads' HO_278001.out).2.1)
      (case side5 => exact xd ((Kd.R_reads' HO291.out).2.2))
      (case side6 => exact (Kd.R_reads' HO291.out).2.1)
      (case side7 => exact xd ((Kd.R_reads' HO294.out).2.2))
      (case side8 => exact (Kd.R_reads' HO294.out).2.1)
      rintro e w86 ⟨rfl, hb⟩
      refine ⟨_, rfl, ?_⟩
      replace HO_271000 := xq HO_271000 hb
      replace HO_271001 := xq HO_271001 hb
      replace HO_278000 := xq HO_278000 hb
      replace HO_278001 := xq HO_278001 hb
      replace HO_288000 := xq HO_288000 hb
      replace HO_288001 := xq HO_288001 hb
      replace HO291 := xq HO291 hb
      replace HO294 := xq HO294 hb
      replace BK252 := xk BK252 hb
      replace BK253 := xk BK253 hb
      replace BK270 := xk BK270 hb
      replace BK277 := xk BK277 hb
      replace BK287 := xk BK287 hb
      replace HB := xp HB hb
      (try clear hb)
      (try clear hb2)
      (try clear hk)
      (try clear hi)
      refine hK.out _ _ ⟨(blk_cell BK277.out 0).trans rfl, (blk_cell BK277.out 1).trans rfl, (blk_cell BK252.out 0).trans rfl, (blk_cell BK252.out 1).trans rfl⟩ (fun hHeld => ?_)
      clear hK K
      refine norm_ (a' := ?_) ?_ ?_
      rotate_left
      ·show Act.put _ (some 50) _ = _
       simp only [Act.put, List.setIfInBounds_toArray, List.set_cons_zero, List.set_cons_succ, i64_w, i32_w]
       rfl
      refine pure_ (i := 4) (N := some 51) (v := ?_) (a' := ?_) #[true, true, true, true, true] rfl rfl (by kernel_rfl) (fun _ _ _ h => h) (Or.inl ⟨by rfl, ?_⟩) ?_ ?_
      rotate_left
      ·intro w'
       go_simp
       with_reducible rfl
      rotate_left
      ·simp only [Act.put, List.setIfInBounds_toArray, List.set_cons_zero, List.set_cons_succ, i64_w, i32_w]
       rfl
      refine done_ (by kernel_rfl) ?_
      have hnb87 := NB277_252.out
      have hnc87 := NB252_277.out
      have hnb88 := NB277_253.out
      have hnc88 := NB253_277.out
      have hnb89 := NB277_270.out
      have hnc89 := NB270_277.out
      have hnb90 := NB277_287.out
      have hnc90 := NB287_277.out
      have hcz91_0 : w86.cell? ⟨gb277, 0, none⟩ = some (.slice Ao38 t271.length co38) := (blk_cell BK277.out 0).trans rfl
      have hcz91_1 : w86.cell? ⟨gb277, 1, none⟩ = some (.slice Ao43 t274.length co43) := (blk_cell BK277.out 1).trans rfl
      have hfz91_0 := blk_frozen BK277.out 0
      have hfz91_1 := blk_frozen BK277.out 1
      go_upto_region 14 with (first | ((with_reducible refine gate_callee (f := 20) rfl ?_); refine goesL_ (some 54) rfl rfl Try.func20 (by kernel_rfl) rfl #[.agg #[.slice Ao38 t271.length co38, .slice Ao43 t274.length co43], .int .i64 1] rfl (by (try simp only [List.map_toArray, List.map_cons, List.map_nil]); first | done | rfl | (simp only [List.length_drop, List.length_take]; rfl)) ?_; (with_reducible refine (laws_markVessels.calls kj15 (fun k_ => some k_ = (.slice Ao38 t271.length co38 : Value).ownBlock) (.slice Ao38 t271.length co38) t271 (fun k_ => some k_ = (.slice Ao43 t274.length co43 : Value).ownBlock) (.slice Ao43 t274.length co43) t274 1 t296 t297 t298 w _ ?side1 ?side2 ?side3 ?side4 ?side5 A80.out).mono ?_); (case side1 => repeat (first | (with_reducible first | exact HB.out | apply below_alloc | apply pw_below_drewN | apply below_drew1 | refine below_set ?_ GE252.out | refine below_set ?_ GE253.out | refine below_set ?_ GE270.out | refine below_set ?_ GE277.out | refine below_set ?_ GE287.out) | exact HB.out)); (case side2 => exact Kd.R_tight rfl HO_278000.out); (case side3 => exact fun k_ e_ => (HO_278000.out.1 k_ e_.symm).1.1.2.2.1); (case side4 => exact Kd.R_tight rfl HO_278001.out); (case side5 => exact fun k_ e_ => (HO_278001.out.1 k_ e_.symm).1.1.2.2.1); rintro e w92 ⟨rfl, hy0, hy1, hb, hkp⟩; refine ⟨_, rfl, ?_⟩; replace HO_271000 := Aside0.mk (Kd.R_mono (ok' := fun k_ => nS k_ Ao32 t266.length co32 ∧ nS k_ Ao38 t271.length co38 ∧ nS k_ Ao43 t274.length co43 ∧ nS k_ Ao50 t280.length co50 ∧ nS k_ Ao52 t283.length co52 ∧ nS k_ Ao84 t289.length co84 ∧ nS k_ Ao85 t292.length co85) (Kd.R_keptB (HO_271000.out) hkp (fun k_ hk_ hs_ => Or.elim hs_ (fun e_ => (hk_.1.1.2.1) e_) (fun e_ => (hk_.1.1.2.2.1) e_))) (fun k_ hk_ => ⟨hk_.1.1.1.1, hk_.1.1.1.2.1, hk_.1.1.1.2.2.1, hk_.1.1.1.2.2.2.1, hk_.1.1.1.2.2.2.2, hk_.1.1.2, hk_.1.2⟩)); replace HO_271001 := Aside0.mk (Kd.R_mono (ok' := fun k_ => nS k_ Ao30 t263.length co30 ∧ nS k_ Ao38 t271.length co38 ∧ nS k_ Ao43 t274.length co43 ∧ nS k_ Ao50 t280.length co50 ∧ nS k_ Ao52 t283.length co52 ∧ nS k_ Ao84 t289.length co84 ∧ nS k_ Ao85 t292.length co85) (Kd.R_keptB (HO_271001.out) hkp (fun k_ hk_ hs_ => Or.elim hs_ (fun e_ => (hk_.1.1.2.1) e_) (fun e_ => (hk_.1.1.2.2.1) e_))) (fun k_ hk_ => ⟨hk_.1.1.1.1, hk_.1.1.1.2.1, hk_.1.1.1.2.2.1, hk_.1.1.1.2.2.2.1, hk_.1.1.1.2.2.2.2, hk_.1.1.2, hk_.1.2⟩)); replace HO_288000 := Aside0.mk (Kd.R_mono (ok' := fun k_ => nS k_ Ao30 t263.length co30 ∧ nS k_ Ao32 t266.length co32 ∧ nS k_ Ao38 t271.length co38 ∧ nS k_ Ao43 t274.length co43 ∧ nS k_ Ao52 t283.length co52 ∧ nS k_ Ao84 t289.length co84 ∧ nS k_ Ao85 t292.length co85) (Kd.R_keptB (HO_288000.out) hkp (fun k_ hk_ hs_ => Or.elim hs_ (fun e_ => (hk_.1.1.2.2.1) e_) (fun e_ => (hk_.1.1.2.2.2.1) e_))) (fun k_ hk_ => ⟨hk_.1.1.1.1, hk_.1.1.1.2.1, hk_.1.1.1.2.2.1, hk_.1.1.1.2.2.2.1, hk_.1.1.1.2.2.2.2, hk_.1.1.2, hk_.1.2⟩)); replace HO_288001 := Aside0.mk (Kd.R_mono (ok' := fun k_ => nS k_ Ao30 t263.length co30 ∧ nS k_ Ao32 t266.length co32 ∧ nS k_ Ao38 t271.length co38 ∧ nS k_ Ao43 t274.length co43 ∧ nS k_ Ao50 t280.length co50 ∧ nS k_ Ao84 t289.length co84 ∧ nS k_ Ao85 t292.length co85) (Kd.R_keptB (HO_288001.out) hkp (fun k_ hk_ hs_ => Or.elim hs_ (fun e_ => (hk_.1.1.2.2.1) e_) (fun e_ => (hk_.1.1.2.2.2.1) e_))) (fun k_ hk_ => ⟨hk_.1.1.1.1, hk_.1.1.1.2.1, hk_.1.1.1.2.2.1, hk_.1.1.1.2.2.2.1, hk_.1.1.1.2.2.2.2, hk_.1.1.2, hk_.1.2⟩)); replace BK252 := Aside0.mk (blk_kept (xb BK252.out) hkp (fun hs_ => Or.elim hs_ (fun e_ => (fun e_ => (Kd.R_ne HO_278000.out BK252.out (by decide)) e_) e_) (fun e_ => (fun e_ => (Kd.R_ne HO_278001.out BK252.out (by decide)) e_) e_))); replace BK253 := Aside0.mk (blk_kept (xb BK253.out) hkp (fun hs_ => Or.elim hs_ (fun e_ => (fun e_ => (Kd.R_ne HO_278000.out BK253.out (by decide)) e_) e_) (fun e_ => (fun e_ => (Kd.R_ne HO_278001.out BK253.out (by decide)) e_) e_))); replace BK270 := Aside0.mk (blk_kept (xb BK270.out) hkp (fun hs_ => Or.elim hs_ (fun e_ => (fun e_ => (Kd.R_ne HO_278000.out BK270.out (by decide)) e_) e_) (fun e_ => (fun e_ => (Kd.R_ne HO_278001.out BK270.out (by decide)) e_) e_))); replace BK277 := Aside0.mk (blk_kept (xb BK277.out) hkp (fun hs_ => Or.elim hs_ (fun e_ => (fun e_ => (Kd.R_ne HO_278000.out BK277.out (by decide)) e_) e_) (fun e_ => (fun e_ => (Kd.R_ne HO_278001.out BK277.out (by decide)) e_) e_))); replace BK287 := Aside0.mk (blk_kept (xb BK287.out) hkp (fun hs_ => Or.elim hs_ (fun e_ => (fun e_ => (Kd.R_ne HO_278000.out BK287.out (by decide)) e_) e_) (fun e_ => (fun e_ => (Kd.R_ne HO_278001.out BK287.out (by decide)) e_) e_))); replace HO_278000 := Aside0.mk (Kd.R_reok rfl hy0 (fun k_ e_ => HO_278000.out.1 k_ e_)); replace HO_278001 := Aside0.mk (Kd.R_reok rfl hy1 (fun k_ e_ => HO_278001.out.1 k_ e_)); replace HO291 := Aside0.mk (Kd.R_mono (ok' := fun k_ => nS k_ Ao30 t263.length co30 ∧ nS k_ Ao32 t266.length co32 ∧ nS k_ Ao38 t271.length co38 ∧ nS k_ Ao43 t274.length co43 ∧ nS k_ Ao50 t280.length co50 ∧ nS k_ Ao52 t283.length co52 ∧ nS k_ Ao85 t292.length co85) (Kd.R_keptB (HO291.out) hkp (fun k_ hk_ hs_ => Or.elim hs_ (fun e_ => (hk_.1.1.1.2) e_) (fun e_ => (hk_.1.1.2) e_))) (fun k_ hk_ => ⟨hk_.1.1.1.1.1.1.2, hk_.1.1.1.1.1.2, hk_.1.1.1.1.2, hk_.1.1.1.2, hk_.1.1.2, hk_.1.2, hk_.1.1.1.1.1.1.1⟩)); replace HO294 := Aside0.mk (Kd.R_mono (ok' := fun k_ => nS k_ Ao30 t263.length co30 ∧ nS k_ Ao32 t266.length co32 ∧ nS k_ Ao38 t271.length co38 ∧ nS k_ Ao43 t274.length co43 ∧ nS k_ Ao50 t280.length co50 ∧ nS k_ Ao52 t283.length co52 ∧ nS k_ Ao84 t289.length co84) (Kd.R_keptB (HO294.out) hkp (fun k_ hk_ hs_ => Or.elim hs_ (fun e_ => (hk_.1.1.1.2) e_) (fun e_ => (hk_.1.1.2) e_))) (fun k_ hk_ => ⟨hk_.1.1.1.1.1.1.2, hk_.1.1.1.1.1.2, hk_.1.1.1.1.2, hk_.1.1.1.2, hk_.1.1.2, hk_.1.2, hk_.1.1.1.1.1.1.1⟩)); replace HB := Aside0.mk (hb); (try clear hb); (try clear hkp); (try clear hy0); (try clear hy1)))
      (try simp only [Act.put, List.setIfInBounds_toArray, List.set_cons_zero, List.set_cons_succ])
      go_cut [67] (fun v67 wc => ∃ (kq : Nat) (x67_80 : Bool), v67 = .bool x67_80 ∧ Aside0 (laws_FnExactMakeMove.j1 kq t269 x67_80 l0_0 l0_1 a1_0 a1_1 t263 t266 t280 t283 = some true) ∧ Aside0 (kq ≤ kj15) ∧ Aside0 (Kd.R (Kd.int .i64) 3 wc w.heap.size (fun k_ => nS k_ Ao32 t266.length co32 ∧ nS k_ Ao38 t271.length co38 ∧ nS k_ Ao43 t274.length co43 ∧ nS k_ Ao50 t280.length co50 ∧ nS k_ Ao52 t283.length co52) (.slice Ao30 t263.length co30) t263) ∧ Aside0 (Kd.R (Kd.int .i64) 3 wc w.heap.size (fun k_ => nS k_ Ao30 t263.length co30 ∧ nS k_ Ao38 t271.length co38 ∧ nS k_ Ao43 t274.length co43 ∧ nS k_ Ao50 t280.length co50 ∧ nS k_ Ao52 t283.length co52) (.slice Ao32 t266.length co32) t266) ∧ Aside0 (Kd.R (Kd.int .i64) 3 wc w.heap.size (fun k_ => nS k_ Ao30 t263.length co30 ∧ nS k_ Ao32 t266.length co32 ∧ nS k_ Ao43 t274.length co43 ∧ nS k_ Ao50 t280.length co50 ∧ nS k_ Ao52 t283.length co52) (.slice Ao38 t271.length co38) t297) ∧ Aside0 (Kd.R (Kd.int .i64) 3 wc w.heap.size (fun k_ => nS k_ Ao30 t263.length co30 ∧ nS k_ Ao32 t266.length co32 ∧ nS k_ Ao38 t271.length co38 ∧ nS k_ Ao50 t280.length co50 ∧ nS k_ Ao52 t283.length co52) (.slice Ao43 t274.length co43) t298) ∧ Aside0 (Kd.R (Kd.int .i64) 3 wc w.heap.size (fun k_ => nS k_ Ao30 t263.length co30 ∧ nS k_ Ao32 t266.length co32 ∧ nS k_ Ao38 t271.length co38 ∧ nS k_ Ao43 t274.length co43 ∧ nS k_ Ao52 t283.length co52) (.slice Ao50 t280.length co50) t280) ∧ Aside0 (Kd.R (Kd.int .i64) 3 wc w.heap.size (fun k_ => nS k_ Ao30 t263.length co30 ∧ nS k_ Ao32 t266.length co32 ∧ nS k_ Ao38 t271.length co38 ∧ nS k_ Ao43 t274.length co43 ∧ nS k_ Ao50 t280.length co50) (.slice Ao52 t283.length co52) t283) ∧ Aside0 (wc.heap[gb252]? = some (.cells #[(.slice A0_0 l0_0.length c0_0), (.slice A0_1 l0_1.length c0_1)] 24 (0, 0))) ∧ Aside0 (wc.heap[gb253]? = some (.cells #[.int .i64 a1_0, .int .i64 a1_1] 39 (0, 0))) ∧ Aside0 (wc.heap[gb270]? = some (.cells #[(.slice Ao30 t263.length co30), (.slice Ao32 t266.length co32)] 26 (0, 0))) ∧ Aside0 (wc.heap[gb277]? = some (.cells #[(.slice Ao38 t271.length co38), (.slice Ao43 t274.length co43)] 26 (0, 0))) ∧ Aside0 (wc.heap[gb287]? = some (.cells #[(.slice Ao50 t280.length co50), (.slice Ao52 t283.length co52)] 26 (0, 0))) ∧ Aside0 (Below w.heap.size w wc))
      case first =>
       have H := HC81.out
       clear HC81
       by_cases c93 : t296 < 0
       ·rw [if_pos c93] at H
        have c93b0 : decide (t296 < 0) = true := decide_eq_true c93
        clear c93
        (first | rw [c93b0] | (simp only [i64_w, i32_w]; rw [c93b0]) | skip)
        have H' := Aside0.mk H
        clear H
        go_wp2
        go_meet
        case rel => exact ⟨_, (true), (by first | rfl | (simp; done) | (simp [*]; done)), H', ⟨by have := HJ15.out; first | omega | exact Nat.le_refl _⟩, ⟨xm HO_271000 (fun _ hk => ⟨hk.1, ⟨hk.2.1, ⟨hk.2.2.1, ⟨hk.2.2.2.1, hk.2.2.2.2.1⟩⟩⟩⟩)⟩, ⟨xm HO_271001 (fun _ hk => ⟨hk.1, ⟨hk.2.1, ⟨hk.2.2.1, ⟨hk.2.2.2.1, hk.2.2.2.2.1⟩⟩⟩⟩)⟩, ⟨xm HO_278000 (fun _ hk => ⟨hk.1.1.1, ⟨hk.1.1.2.1, ⟨hk.1.1.2.2.1, ⟨hk.1.1.2.2.2.1, hk.1.1.2.2.2.2⟩⟩⟩⟩)⟩, ⟨xm HO_278001 (fun _ hk => ⟨hk.1.1.1, ⟨hk.1.1.2.1, ⟨hk.1.1.2.2.1, ⟨hk.1.1.2.2.2.1, hk.1.1.2.2.2.2⟩⟩⟩⟩)⟩, ⟨xm HO_288000 (fun _ hk => ⟨hk.1, ⟨hk.2.1, ⟨hk.2.2.1, ⟨hk.2.2.2.1, hk.2.2.2.2.1⟩⟩⟩⟩)⟩, ⟨xm HO_288001 (fun _ hk => ⟨hk.1, ⟨hk.2.1, ⟨hk.2.2.1, ⟨hk.2.2.2.1, hk.2.2.2.2.1⟩⟩⟩⟩)⟩, ⟨xb BK252.out⟩, ⟨xb BK253.out⟩, ⟨xb BK270.out⟩, ⟨xb BK277.out⟩, ⟨xb BK287.out⟩, ⟨xs HB.out⟩⟩
       ·rw [if_neg c93] at H
        have c93b0 : decide (t296 < 0) = false := decide_eq_false c93
        clear c93
        (first | rw [c93b0] | (simp only [i64_w, i32_w]; rw [c93b0]) | skip)
        replace H := Option.bind_eq_some_iff.mp H
        obtain ⟨t299, A940, H⟩ := H
        replace H : (if t299 = true then (laws_FnExactMakeMove.j1 kj15 t269 (t286 != t269) l0_0 l0_1 a1_0 a1_1 t263 t266 t280 t283) else (laws_FnExactMakeMove.j1 kj15 t269 true l0_0 l0_1 a1_0 a1_1 t263 t266 t280 t283)) = some true := H
        have A94 := Aside0.mk A940
        clear A940
        by_cases c95 : t299 = true
        ·subst c95
         have H1 : (laws_FnExactMakeMove.j1 kj15 t269 (t286 != t269) l0_0 l0_1 a1_0 a1_1 t263 t266 t280 t283) = some true := by first | (rw [if_pos rfl] at H; exact H) | rfl
         clear H
         have H := H1
         clear H1
         have H' := Aside0.mk H
         clear H
         have hnb96 := NB287_252.out
         have hnc96 := NB252_287.out
         have hnb97 := NB287_253.out
         have hnc97 := NB253_287.out
         have hnb98 := NB287_270.out
         have hnc98 := NB270_287.out
         have hnb99 := NB287_277.out
         have hnc99 := NB277_287.out
         have hcz100_0 : w92.cell? ⟨gb287, 0, none⟩ = some (.slice Ao50 t280.length co50) := (blk_cell BK287.out 0).trans rfl
         have hcz100_1 : w92.cell? ⟨gb287, 1, none⟩ = some (.slice Ao52 t283.length co52) := (blk_cell BK287.out 1).trans rfl
         have hfz100_0 := blk_frozen BK287.out 0
         have hfz100_1 := blk_frozen BK287.out 1
         have hnb101 := NB270_252.out
         have hnc101 := NB252_270.out
         have hnb102 := NB270_253.out
         have hnc102 := NB253_270.out
         have hnb103 := NB270_277.out
         have hnc103 := NB277_270.out
         have hcz104_0 : w92.cell? ⟨gb270, 0, none⟩ = some (.slice Ao30 t263.length co30) := (blk_cell BK270.out 0).trans rfl
         have hcz104_1 : w92.cell? ⟨gb270, 1, none⟩ = some (.slice Ao32 t266.length co32) := (blk_cell BK270.out 1).trans rfl
         have hfz104_0 := blk_frozen BK270.out 0
         have hfz104_1 := blk_frozen BK270.out 1
         go_wp2_with (first | (go_at_call 19; (with_reducible refine (laws_eqVessels.calls kj15 _ _ t280 _ _ t283 _ _ t263 _ _ t266 true _ ?side1 ?side2 ?side3 ?side4 ?side5 ?side6 ?side7 ?side8 A94.out).mono ?_); (case side1 => exact xd ((Kd.R_reads' HO_288000.out).2.2)); (case side2 => exact (Kd.R_reads' HO_288000.out).2.1); (case side3 => exact xd ((Kd.R_reads' HO_288001.out).2.2)); (case side4 => exact (Kd.R_reads' HO_288001.out).2.1); (case side5 => exact xd ((Kd.R_reads' HO_271000.out).2.2)); (case side6 => exact (Kd.R_reads' HO_271000.out).2.1); (case side7 => exact xd ((Kd.R_reads' HO_271001.out).2.2)); (case side8 => exact (Kd.R_reads' HO_271001.out).2.1); rintro e w105 ⟨rfl, hb⟩; replace HO_271000 := xq HO_271000 hb; replace HO_271001 := xq HO_271001 hb; replace HO_278000 := xq HO_278000 hb; replace HO_278001 := xq HO_278001 hb; replace HO_288000 := xq HO_288000 hb; replace HO_288001 := xq HO_288001 hb; replace HO291 := xq HO291 hb; replace HO294 := xq HO294 hb; replace BK252 := xk BK252 hb; replace BK253 := xk BK253 hb; replace BK270 := xk BK270 hb; replace BK277 := xk BK277 hb; replace BK287 := xk BK287 hb; replace HB := xp HB hb; (try clear hb); (try clear hb2); (try clear hk); (try clear hi)))
         go_meet
         case rel => exact ⟨_, ((t286 != t269)), (by first | rfl | (simp; done) | (simp [*]; done)), H', ⟨by have := HJ15.out; first | omega | exact Nat.le_refl _⟩, ⟨xm HO_271000 (fun _ hk => ⟨hk.1, ⟨hk.2.1, ⟨hk.2.2.1, ⟨hk.2.2.2.1, hk.2.2.2.2.1⟩⟩⟩⟩)⟩, ⟨xm HO_271001 (fun _ hk => ⟨hk.1, ⟨hk.2.1, ⟨hk.2.2.1, ⟨hk.2.2.2.1, hk.2.2.2.2.1⟩⟩⟩⟩)⟩, ⟨xm HO_278000 (fun _ hk => ⟨hk.1.1.1, ⟨hk.1.1.2.1, ⟨hk.1.1.2.2.1, ⟨hk.1.1.2.2.2.1, hk.1.1.2.2.2.2⟩⟩⟩⟩)⟩, ⟨xm HO_278001 (fun _ hk => ⟨hk.1.1.1, ⟨hk.1.1.2.1, ⟨hk.1.1.2.2.1, ⟨hk.1.1.2.2.2.1, hk.1.1.2.2.2.2⟩⟩⟩⟩)⟩, ⟨xm HO_288000 (fun _ hk => ⟨hk.1, ⟨hk.2.1, ⟨hk.2.2.1, ⟨hk.2.2.2.1, hk.2.2.2.2.1⟩⟩⟩⟩)⟩, ⟨xm HO_288001 (fun _ hk => ⟨hk.1, ⟨hk.2.1, ⟨hk.2.2.1, ⟨hk.2.2.2.1, hk.2.2.2.2.1⟩⟩⟩⟩)⟩, ⟨xb BK252.out⟩, ⟨xb BK253.out⟩, ⟨xb BK270.out⟩, ⟨xb BK277.out⟩, ⟨xb BK287.out⟩, ⟨xs HB.out⟩⟩
        ·replace c95 := Bool.eq_false_iff.mpr c95
         subst c95
         have H1 : (laws_FnExactMakeMove.j1 kj15 t269 true l0_0 l0_1 a1_0 a1_1 t263 t266 t280 t283) = some true := by first | (rw [if_neg (show ¬ (false = true) by decide)] at H; exact H) | rfl
         clear H
         have H := H1
         clear H1
         have H' := Aside0.mk H
         clear H
         have hnb106 := NB287_252.out
         have hnc106 := NB252_287.out
         have hnb107 := NB287_253.out
         have hnc107 := NB253_287.out
         have hnb108 := NB287_270.out
         have hnc108 := NB270_287.out
         have hnb109 := NB287_277.out
         have hnc109 := NB277_287.out
         have hcz110_0 : w92.cell? ⟨gb287, 0, none⟩ = some (.slice Ao50 t280.length co50) := (blk_cell BK287.out 0).trans rfl
         have hcz110_1 : w92.cell? ⟨gb287, 1, none⟩ = some (.slice Ao52 t283.length co52) := (blk_cell BK287.out 1).trans rfl
         have hfz110_0 := blk_frozen BK287.out 0
         have hfz110_1 := blk_frozen BK287.out 1
         have hnb111 := NB270_252.out
         have hnc111 := NB252_270.out
         have hnb112 := NB270_253.out
         have hnc112 := NB253_270.out
         have hnb113 := NB270_277.out
         have hnc113 := NB277_270.out
         have hcz114_0 : w92.cell? ⟨gb270, 0, none⟩ = some (.slice Ao30 t263.length co30) := (blk_cell BK270.out 0).trans rfl
         have hcz114_1 : w92.cell? ⟨gb270, 1, none⟩ = some (.slice Ao32 t266.length co32) := (blk_cell BK270.out 1).trans rfl
         have hfz114_0 := blk_frozen BK270.out 0
         have hfz114_1 := blk_frozen BK270.out 1
         go_wp2_with (first | (go_at_call 19; (with_reducible refine (laws_eqVessels.calls kj15 _ _ t280 _ _ t283 _ _ t263 _ _ t266 false _ ?side1 ?side2 ?side3 ?side4 ?side5 ?side6 ?side7 ?side8 A94.out).mono ?_); (case side1 => exact xd ((Kd.R_reads' HO_288000.out).2.2)); (case side2 => exact (Kd.R_reads' HO_288000.out).2.1); (case side3 => exact xd ((Kd.R_reads' HO_288001.out).2.2)); (case side4 => exact (Kd.R_reads' HO_288001.out).2.1); (case side5 => exact xd ((Kd.R_reads' HO_271000.out).2.2)); (case side6 => exact (Kd.R_reads' HO_271000.out).2.1); (case side7 => exact xd ((Kd.R_reads' HO_271001.out).2.2)); (case side8 => exact (Kd.R_reads' HO_271001.out).2.1); rintro e w115 ⟨rfl, hb⟩; replace HO_271000 := xq HO_271000 hb; replace HO_271001 := xq HO_271001 hb; replace HO_278000 := xq HO_278000 hb; replace HO_278001 := xq HO_278001 hb; replace HO_288000 := xq HO_288000 hb; replace HO_288001 := xq HO_288001 hb; replace HO291 := xq HO291 hb; replace HO294 := xq HO294 hb; replace BK252 := xk BK252 hb; replace BK253 := xk BK253 hb; replace BK270 := xk BK270 hb; replace BK277 := xk BK277 hb; replace BK287 := xk BK287 hb; replace HB := xp HB hb; (try clear hb); (try clear hb2); (try clear hk); (try clear hi)))
         go_meet
         case rel => exact ⟨_, (true), (by first | rfl | (simp; done) | (simp [*]; done)), H', ⟨by have := HJ15.out; first | omega | exact Nat.le_refl _⟩, ⟨xm HO_271000 (fun _ hk => ⟨hk.1, ⟨hk.2.1, ⟨hk.2.2.1, ⟨hk.2.2.2.1, hk.2.2.2.2.1⟩⟩⟩⟩)⟩, ⟨xm HO_271001 (fun _ hk => ⟨hk.1, ⟨hk.2.1, ⟨hk.2.2.1, ⟨hk.2.2.2.1, hk.2.2.2.2.1⟩⟩⟩⟩)⟩, ⟨xm HO_278000 (fun _ hk => ⟨hk.1.1.1, ⟨hk.1.1.2.1, ⟨hk.1.1.2.2.1, ⟨hk.1.1.2.2.2.1, hk.1.1.2.2.2.2⟩⟩⟩⟩)⟩, ⟨xm HO_278001 (fun _ hk => ⟨hk.1.1.1, ⟨hk.1.1.2.1, ⟨hk.1.1.2.2.1, ⟨hk.1.1.2.2.2.1, hk.1.1.2.2.2.2⟩⟩⟩⟩)⟩, ⟨xm HO_288000 (fun _ hk => ⟨hk.1, ⟨hk.2.1, ⟨hk.2.2.1, ⟨hk.2.2.2.1, hk.2.2.2.2.1⟩⟩⟩⟩)⟩, ⟨xm HO_288001 (fun _ hk => ⟨hk.1, ⟨hk.2.1, ⟨hk.2.2.1, ⟨hk.2.2.2.1, hk.2.2.2.2.1⟩⟩⟩⟩)⟩, ⟨xb BK252.out⟩, ⟨xb BK253.out⟩, ⟨xb BK270.out⟩, ⟨xb BK277.out⟩, ⟨xb BK287.out⟩, ⟨xs HB.out⟩⟩
      case rest =>
       clear HC81
       try clear c1
       try clear c2
       try clear p2
       try clear c5
       try clear c6
       try clear c7
       try clear c8
       try clear c9
       try clear c10
       try clear c11
       try clear c17
       try clear c19
       try clear c20
       try clear c27
       try clear c28
       try clear c55
       try clear c56
       try clear c57
       try clear c58
       try clear c59
       try clear c61
       try clear c62
       try clear c63
       try clear c66
       try clear c67
       try clear c68
       try clear c69
       try clear c71
       try clear c72
       try clear c73
       try clear c76
       try clear c79
       try clear c87
       try clear c88
       try clear c89
       try clear c90
       try clear c93
       try clear c93b0
       try clear c95
       try clear c96
       try clear c97
       try clear c98
       try clear c99
       try clear c101
       try clear c102
       try clear c103
       try clear c106
       try clear c107
       try clear c108
       try clear c109
       try clear c111
       try clear c112
       try clear c113
       try clear hcz100_0
       try clear hcz100_1
       try clear hcz104_0
       try clear hcz104_1
       try clear hcz110_0
       try clear hcz110_1
       try clear hcz114_0
       try clear hcz114_1
       try clear hcz60_0
       try clear hcz60_1
       try clear hcz64_0
       try clear hcz64_1
       try clear hcz70_0
       try clear hcz70_1
       try clear hcz74_0
       try clear hcz74_1
       try clear hcz91_0
       try clear hcz91_1
       try clear hfz100_0
       try clear hfz100_1
       try clear hfz104_0
       try clear hfz104_1
       try clear hfz110_0
       try clear hfz110_1
       try clear hfz114_0
       try clear hfz114_1
       try clear hfz60_0
       try clear hfz60_1
       try clear hfz64_0
       try clear hfz64_1
       try clear hfz70_0
       try clear hfz70_1
       try clear hfz74_0
       try clear hfz74_1
       try clear hfz91_0
       try clear hfz91_1
       try clear p2
       obtain ⟨kq, x67_80, rfl, HA, HJ80, HO_271000, HO_271001, HO_278000, HO_278001, HO_288000, HO_288001, BK252, BK253, BK270, BK277, BK287, HB⟩ := hcut
       have hl278000_80 := (Kd.R_reads' HO_278000.out).1
       rw [hl278000_80] at HO_278000
       (try simp only [hl278000_80])
       (try simp only [hl278000_80] at BK252)
       (try simp only [hl278000_80] at BK253)
       (try simp only [hl278000_80] at BK270)
       (try simp only [hl278000_80] at BK277)
       (try simp only [hl278000_80] at BK287)
       (try simp only [hl278000_80] at HO_271000)
       (try simp only [hl278000_80] at HO_271001)
       (try simp only [hl278000_80] at HO_278001)
       (try simp only [hl278000_80] at HO_288000)
       (try simp only [hl278000_80] at HO_288001)
       have hl278001_80 := (Kd.R_reads' HO_278001.out).1
       rw [hl278001_80] at HO_278001
       (try simp only [hl278001_80])
       (try simp only [hl278001_80] at BK252)
       (try simp only [hl278001_80] at BK253)
       (try simp only [hl278001_80] at BK270)
       (try simp only [hl278001_80] at BK277)
       (try simp only [hl278001_80] at BK287)
       (try simp only [hl278001_80] at HO_271000)
       (try simp only [hl278001_80] at HO_271001)
       (try simp only [hl278001_80] at HO_278000)
       (try simp only [hl278001_80] at HO_288000)
       (try simp only [hl278001_80] at HO_288001)
       cases kq with
       | zero => exact absurd HA.out (by simp [laws_FnExactMakeMove.j1])
       | succ kj80 =>
        have H := HA.out
        clear HA
        simp only [laws_FnExactMakeMove.j1] at H
        by_cases c116 : x67_80 = true
        ·subst c116
         have H1 : (some false) = some true := by first | (rw [if_pos rfl] at H; exact H) | rfl
         clear H
         have H := H1
         clear H1
         exact absurd H (by simp)
        ·replace c116 := Bool.eq_false_iff.mpr c116
         subst c116
         have H1 : ((laws_markVessels.f kj80 t280 t283 1).bind fun bt300 => ((laws_heldVessels.f kj80 bt300.2.1 bt300.2.2 1).bind fun t303 => (if t303 < 0 then (some false) else (if t303 = bt300.1 then ((laws_toVessels.f kj80 l0_0 l0_1).bind fun bt304 => ((laws_toMove.f a1_0 a1_1).bind fun bt310 => ((impl_MakeMove.f kj80 bt304.1 bt304.2 bt310.1 bt310.2).bind fun bt312 => ((laws_eqVessels.f kj80 bt312.1 bt312.2.1 t263 t266).bind fun t320 => (if t320 = true then (laws_FnExactMakeMove.j2 kj80 bt300.1 (bt312.2.2 != t269) bt300.2.1 bt300.2.2) else (laws_FnExactMakeMove.j2 kj80 bt300.1 true bt300.2.1 bt300.2.2)))))) else (some false))))) = some true := by first | (rw [if_neg (show ¬ (false = true) by decide)] at H; exact H) | rfl
         clear H
         have H := H1
         clear H1
         replace H := Option.bind_eq_some_iff.mp H
         obtain ⟨⟨t300, t301, t302⟩, A1170, H⟩ := H
         replace H : ((laws_heldVessels.f kj80 t301 t302 1).bind fun t303 => (if t303 < 0 then (some false) else (if t303 = t300 then ((laws_toVessels.f kj80 l0_0 l0_1).bind fun bt304 => ((laws_toMove.f a1_0 a1_1).bind fun bt310 => ((impl_MakeMove.f kj80 bt304.1 bt304.2 bt310.1 bt310.2).bind fun bt312 => ((laws_eqVessels.f kj80 bt312.1 bt312.2.1 t263 t266).bind fun t320 => (if t320 = true then (laws_FnExactMakeMove.j2 kj80 t300 (bt312.2.2 != t269) t301 t302) else (laws_FnExactMakeMove.j2 kj80 t300 true t301 t302)))))) else (some false)))) = some true := H
         have A117 := Aside0.mk A1170
         clear A1170
         replace H := Option.bind_eq_some_iff.mp H
         obtain ⟨t303, A1180, H⟩ := H
         replace H : (if t303 < 0 then (some false) else (if t303 = t300 then ((laws_toVessels.f kj80 l0_0 l0_1).bind fun bt304 => ((laws_toMove.f a1_0 a1_1).bind fun bt310 => ((impl_MakeMove.f kj80 bt304.1 bt304.2 bt310.1 bt310.2).bind fun bt312 => ((laws_eqVessels.f kj80 bt312.1 bt312.2.1 t263 t266).bind fun t320 => (if t320 = true then (laws_FnExactMakeMove.j2 kj80 t300 (bt312.2.2 != t269) t301 t302) else (laws_FnExactMakeMove.j2 kj80 t300 true t301 t302)))))) else (some false))) = some true := H
         have A118 := Aside0.mk A1180
         clear A1180
         by_cases c119 : t303 < 0
         ·rw [if_pos c119] at H
          have c119b0 : decide (t303 < 0) = true := decide_eq_true c119
          clear c119
          exact absurd H (by simp)
         ·rw [if_neg c119] at H
          have c119b0 : decide (t303 < 0) = false := decide_eq_false c119
          clear c119
          by_cases c120 : t303 = t300
          ·rw [if_pos c120] at H
           have c120b0 : (t303 == t300) = true := beq_iff_eq.mpr c120
           have c120b1 : (t303 != t300) = false := bne_eq_false_iff_eq.mpr c120
           clear c120
           replace H := Option.bind_eq_some_iff.mp H
           obtain ⟨⟨t304, t307⟩, A1210, H⟩ := H
           replace H : ((laws_toMove.f a1_0 a1_1).bind fun bt310 => ((impl_MakeMove.f kj80 t304 t307 bt310.1 bt310.2).bind fun bt312 => ((laws_eqVessels.f kj80 bt312.1 bt312.2.1 t263 t266).bind fun t320 => (if t320 = true then (laws_FnExactMakeMove.j2 kj80 t300 (bt312.2.2 != t269) t301 t302) else (laws_FnExactMakeMove.j2 kj80 t300 true t301 t302))))) = some true := H
           have A121 := Aside0.mk A1210
           clear A1210
           replace H := Option.bind_eq_some_iff.mp H
           obtain ⟨⟨t310, t311⟩, A1220, H⟩ := H
           replace H : ((impl_MakeMove.f kj80 t304 t307 t310 t311).bind fun bt312 => ((laws_eqVessels.f kj80 bt312.1 bt312.2.1 t263 t266).bind fun t320 => (if t320 = true then (laws_FnExactMakeMove.j2 kj80 t300 (bt312.2.2 != t269) t301 t302) else (laws_FnExactMakeMove.j2 kj80 t300 true t301 t302)))) = some true := H
           have A122 := Aside0.mk A1220
           clear A1220
           replace H := Option.bind_eq_some_iff.mp H
           obtain ⟨⟨t312, t315, t318⟩, A1230, H⟩ := H
           replace H : ((laws_eqVessels.f kj80 t312 t315 t263 t266).bind fun t320 => (if t320 = true then (laws_FnExactMakeMove.j2 kj80 t300 (t318 != t269) t301 t302) else (laws_FnExactMakeMove.j2 kj80 t300 true t301 t302))) = some true := H
           have A123 := Aside0.mk A1230
           clear A1230
           have HC124 := Aside0.mk H
           clear H
           have hnb125 := NB287_252.out
           have hnc125 := NB252_287.out
           have hnb126 := NB287_253.out
           have hnc126 := NB253_287.out
           have hnb127 := NB287_270.out
           have hnc127 := NB270_287.out
           have hnb128 := NB287_277.out
           have hnc128 := NB277_287.out
           have hcz129_0 : wc.cell? ⟨gb287, 0, none⟩ = some (.slice Ao50 t280.length co50) := (blk_cell BK287.out 0).trans rfl
           have hcz129_1 : wc.cell? ⟨gb287, 1, none⟩ = some (.slice Ao52 t283.length co52) := (blk_cell BK287.out 1).trans rfl
           have hfz129_0 := blk_frozen BK287.out 0
           have hfz129_1 := blk_frozen BK287.out 1
           try go_wp2_with (first | ((with_reducible refine gate_callee (f := 20) rfl ?_); refine goesL_ (some 70) rfl rfl Try.func20 (by kernel_rfl) rfl #[.agg #[.slice Ao50 t280.length co50, .slice Ao52 t283.length co52], .int .i64 1] rfl (by (try simp only [List.map_toArray, List.map_cons, List.map_nil]); first | done | rfl | (simp only [List.length_drop, List.length_take]; rfl)) ?_; (with_reducible refine (laws_markVessels.calls kj80 (fun k_ => some k_ = (.slice Ao50 t280.length co50 : Value).ownBlock) (.slice Ao50 t280.length co50) t280 (fun k_ => some k_ = (.slice Ao52 t283.length co52 : Value).ownBlock) (.slice Ao52 t283.length co52) t283 1 t300 t301 t302 w _ ?side1 ?side2 ?side3 ?side4 ?side5 A117.out).mono ?_); (case side1 => repeat (first | (with_reducible first | exact HB.out | apply below_alloc | apply pw_below_drewN | apply below_drew1 | refine below_set ?_ GE252.out | refine below_set ?_ GE253.out | refine below_set ?_ GE270.out | refine below_set ?_ GE277.out | refine below_set ?_ GE287.out) | exact HB.out)); (case side2 => exact Kd.R_tight rfl HO_288000.out); (case side3 => exact fun k_ e_ => (HO_288000.out.1 k_ e_.symm).2.2.2.2); (case side4 => exact Kd.R_tight rfl HO_288001.out); (case side5 => exact fun k_ e_ => (HO_288001.out.1 k_ e_.symm).2.2.2.2); rintro e w130 ⟨rfl, hy0, hy1, hb, hkp⟩; refine ⟨_, rfl, ?_⟩; replace HO_271000 := Aside0.mk (Kd.R_mono (ok' := fun k_ => nS k_ Ao32 t266.length co32 ∧ nS k_ Ao38 t297.length co38 ∧ nS k_ Ao43 t298.length co43 ∧ nS k_ Ao50 t280.length co50 ∧ nS k_ Ao52 t283.length co52) (Kd.R_keptB (HO_271000.out) hkp (fun k_ hk_ hs_ => Or.elim hs_ (fun e_ => (hk_.2.2.2.1) e_) (fun e_ => (hk_.2.2.2.2) e_))) (fun k_ hk_ => ⟨hk_.1.1, hk_.1.2.1, hk_.1.2.2.1, hk_.1.2.2.2.1, hk_.1.2.2.2.2⟩)); replace HO_271001 := Aside0.mk (Kd.R_mono (ok' := fun k_ => nS k_ Ao30 t263.length co30 ∧ nS k_ Ao38 t297.length co38 ∧ nS k_ Ao43 t298.length co43 ∧ nS k_ Ao50 t280.length co50 ∧ nS k_ Ao52 t283.length co52) (Kd.R_keptB (HO_271001.out) hkp (fun k_ hk_ hs_ => Or.elim hs_ (fun e_ => (hk_.2.2.2.1) e_) (fun e_ => (hk_.2.2.2.2) e_))) (fun k_ hk_ => ⟨hk_.1.1, hk_.1.2.1, hk_.1.2.2.1, hk_.1.2.2.2.1, hk_.1.2.2.2.2⟩)); replace HO_278000 := Aside0.mk (Kd.R_mono (ok' := fun k_ => nS k_ Ao30 t263.length co30 ∧ nS k_ Ao32 t266.length co32 ∧ nS k_ Ao43 t298.length co43 ∧ nS k_ Ao50 t280.length co50 ∧ nS k_ Ao52 t283.length co52) (Kd.R_keptB (HO_278000.out) hkp (fun k_ hk_ hs_ => Or.elim hs_ (fun e_ => (hk_.2.2.2.1) e_) (fun e_ => (hk_.2.2.2.2) e_))) (fun k_ hk_ => ⟨hk_.1.1, hk_.1.2.1, hk_.1.2.2.1, hk_.1.2.2.2.1, hk_.1.2.2.2.2⟩)); replace HO_278001 := Aside0.mk (Kd.R_mono (ok' := fun k_ => nS k_ Ao30 t263.length co30 ∧ nS k_ Ao32 t266.length co32 ∧ nS k_ Ao38 t297.length co38 ∧ nS k_ Ao50 t280.length co50 ∧ nS k_ Ao52 t283.length co52) (Kd.R_keptB (HO_278001.out) hkp (fun k_ hk_ hs_ => Or.elim hs_ (fun e_ => (hk_.2.2.2.1) e_) (fun e_ => (hk_.2.2.2.2) e_))) (fun k_ hk_ => ⟨hk_.1.1, hk_.1.2.1, hk_.1.2.2.1, hk_.1.2.2.2.1, hk_.1.2.2.2.2⟩)); replace BK252 := Aside0.mk (blk_kept (xb BK252.out) hkp (fun hs_ => Or.elim hs_ (fun e_ => (fun e_ => (Kd.R_ne HO_288000.out BK252.out (by decide)) e_) e_) (fun e_ => (fun e_ => (Kd.R_ne HO_288001.out BK252.out (by decide)) e_) e_))); replace BK253 := Aside0.mk (blk_kept (xb BK253.out) hkp (fun hs_ => Or.elim hs_ (fun e_ => (fun e_ => (Kd.R_ne HO_288000.out BK253.out (by decide)) e_) e_) (fun e_ => (fun e_ => (Kd.R_ne HO_288001.out BK253.out (by decide)) e_) e_))); replace BK270 := Aside0.mk (blk_kept (xb BK270.out) hkp (fun hs_ => Or.elim hs_ (fun e_ => (fun e_ => (Kd.R_ne HO_288000.out BK270.out (by decide)) e_) e_) (fun e_ => (fun e_ => (Kd.R_ne HO_288001.out BK270.out (by decide)) e_) e_))); replace BK277 := Aside0.mk (blk_kept (xb BK277.out) hkp (fun hs_ => Or.elim hs_ (fun e_ => (fun e_ => (Kd.R_ne HO_288000.out BK277.out (by decide)) e_) e_) (fun e_ => (fun e_ => (Kd.R_ne HO_288001.out BK277.out (by decide)) e_) e_))); replace BK287 := Aside0.mk (blk_kept (xb BK287.out) hkp (fun hs_ => Or.elim hs_ (fun e_ => (fun e_ => (Kd.R_ne HO_288000.out BK287.out (by decide)) e_) e_) (fun e_ => (fun e_ => (Kd.R_ne HO_288001.out BK287.out (by decide)) e_) e_))); replace HO_288000 := Aside0.mk (Kd.R_reok rfl hy0 (fun k_ e_ => HO_288000.out.1 k_ e_)); replace HO_288001 := Aside0.mk (Kd.R_reok rfl hy1 (fun k_ e_ => HO_288001.out.1 k_ e_)); replace HB := Aside0.mk (hb); (try clear hb); (try clear hkp); (try clear hy0); (try clear hy1); have hcz131_0 : w130.cell? ⟨gb287, 0, none⟩ = some (.slice Ao50 t280.length co50) := (blk_cell BK287.out 0).trans rfl; have hcz131_1 : w130.cell? ⟨gb287, 1, none⟩ = some (.slice Ao52 t283.length co52) := (blk_cell BK287.out 1).trans rfl; have hfz131_0 := blk_frozen BK287.out 0; have hfz131_1 := blk_frozen BK287.out 1) | ((with_reducible refine gate_callee (f := 21) rfl ?_); refine goesL_ (some 73) rfl rfl Try.func21 (by kernel_rfl) rfl #[.agg #[.slice Ao50 t301.length co50, .slice Ao52 t302.length co52], .int .i64 1] rfl (by (try simp only [List.map_toArray, List.map_cons, List.map_nil]); first | done | (rw [show t301.length = t280.length from (Kd.R_reads' HO_288000.out).1.symm, show t302.length = t283.length from (Kd.R_reads' HO_288001.out).1.symm] <;> rfl) | rfl | (simp only [List.length_drop, List.length_take]; rfl)) ?_; (with_reducible refine (laws_heldVessels.calls kj80 _ _ t301 _ _ t302 1 t303 _ ?side1 ?side2 ?side3 ?side4 A118.out).mono ?_); (case side1 => exact xd ((Kd.R_reads' HO_288000.out).2.2)); (case side2 => rw [show t301.length = t280.length from (Kd.R_reads' HO_288000.out).1.symm]; exact (Kd.R_reads' HO_288000.out).2.1); (case side3 => exact xd ((Kd.R_reads' HO_288001.out).2.2)); (case side4 => rw [show t302.length = t283.length from (Kd.R_reads' HO_288001.out).1.symm]; exact (Kd.R_reads' HO_288001.out).2.1); rintro e w132 ⟨rfl, hb⟩; refine ⟨_, rfl, ?_⟩; replace HO_271000 := xq HO_271000 hb; replace HO_271001 := xq HO_271001 hb; replace HO_278000 := xq HO_278000 hb; replace HO_278001 := xq HO_278001 hb; replace HO_288000 := xq HO_288000 hb; replace HO_288001 := xq HO_288001 hb; replace BK252 := xk BK252 hb; replace BK253 := xk BK253 hb; replace BK270 := xk BK270 hb; replace BK277 := xk BK277 hb; replace BK287 := xk BK287 hb; replace HB := xp HB hb; (try clear hb); (try clear hb2); (try clear hk); (try clear hi)))
           replace HO_271000 := xw HO_271000
           replace HO_271001 := xw HO_271001
           replace HO_278000 := xw HO_278000
           replace HO_278001 := xw HO_278001
           replace HO_288000 := xw HO_288000
           replace HO_288001 := xw HO_288001
           replace BK252 := xv BK252
           replace BK253 := xv BK253
           replace BK270 := xv BK270
           replace BK277 := xv BK277
           replace BK287 := xv BK287
           replace HB := Aside0.mk (below_drew1 HB.out)
           refine start_ (n := 11) (S := fun w' => w'.cell? ⟨gb252, 0, none⟩ = some (.slice A0_0 l0_0.length c0_0) ∧ w'.cell? ⟨gb252, 1, none⟩ = some (.slice A0_1 l0_1.length c0_1) ∧ w'.cell? ⟨gb253, 0, none⟩ = some (.int .i64 a1_0) ∧ w'.cell? ⟨gb253, 1, none⟩ = some (.int .i64 a1_1)) (ds := []) #[false, false, false, false, false, false, false, false, false, false, false] (by kernel_rfl) rfl rfl ⟨(blk_cell BK252.out 0).trans rfl, (blk_cell BK252.out 1).trans rfl, (blk_cell BK253.out 0).trans rfl, (blk_cell BK253.out 1).trans rfl⟩ (fun hHeld => ?_); refine with_tabW laws_FnExactMakeMove.tab24 laws_FnExactMakeMove.bits24 (fun HT_ HW_ => ?_)
           generalize w132.drew = w133 at HO_271000 HO_271001 HO_278000 HO_278001 HO_288000 HO_288001 BK252 BK253 BK270 BK277 BK287 HB hHeld ⊢
           refine take_ (i := 0) (N := some 80) (v := ?_) (a' := ?_) #[true, false, false, false, false, false, false, false, false, false, false] rfl rfl (take_ofW HT_.out HW_.out (by kernel_rfl)) (fun _ _ _ h => h) (Or.inl ⟨by rfl, ?_⟩) hHeld ?_ ?_
           rotate_left
           ·rintro w' ⟨s0, s1, s2, s3⟩
            go_simp
            with_reducible rfl
           rotate_left
           ·simp only [Act.put, List.setIfInBounds_toArray, List.set_cons_zero, List.set_cons_succ, i64_w, i32_w]
            rfl
           refine take_ (i := 2) (N := some 82) (v := ?_) (a' := ?_) #[true, false, true, false, false, false, false, false, false, false, false] rfl rfl (take_ofW HT_.out HW_.out (by kernel_rfl)) (fun _ _ _ h => h) (Or.inl ⟨by rfl, ?_⟩) hHeld ?_ ?_
           rotate_left
           ·rintro w' ⟨s0, s1, s2, s3⟩
            go_simp
            with_reducible rfl
           rotate_left
           ·simp only [Act.put, List.setIfInBounds_toArray, List.set_cons_zero, List.set_cons_succ, i64_w, i32_w]
            rfl
           refine join_ (σ := Value × Value × Value × Value × Nat) 2 #[true, true, true, true, true, true, true, true, true, false, false] (fun s_ => [(81, .agg #[s_.1, s_.2.1]), (83, .agg #[.int .i64 t310, .int .i64 t311]), (84, .tuple #[.agg #[s_.2.2.1, s_.2.2.2.1], .bool t318]), (14, .pointer (some ⟨s_.2.2.2.2, 0, none⟩)), (79, .tuple #[.agg #[s_.2.2.1, s_.2.2.2.1], .bool t318]), (85, .agg #[s_.2.2.1, s_.2.2.2.1]), (86, .bool t318)]) (fun s_ w' => (w'.cell? ⟨gb252, 0, none⟩ = some (.slice A0_0 l0_0.length c0_0) ∧ w'.cell? ⟨gb252, 1, none⟩ = some (.slice A0_1 l0_1.length c0_1) ∧ w'.cell? ⟨gb253, 0, none⟩ = some (.int .i64 a1_0) ∧ w'.cell? ⟨gb253, 1, none⟩ = some (.int .i64 a1_1)) ∧ (Kd.R (Kd.int .i64) 3 w' w.heap.size (fun k_ => some k_ ≠ (s_.2.1 : Value).ownBlock ∧ some k_ ≠ (s_.2.2.1 : Value).ownBlock ∧ some k_ ≠ (s_.2.2.2.1 : Value).ownBlock ∧ nS k_ Ao30 t263.length co30 ∧ nS k_ Ao32 t266.length co32 ∧ nS k_ Ao38 t297.length co38 ∧ nS k_ Ao43 t298.length co43 ∧ nS k_ Ao50 t280.length co50 ∧ nS k_ Ao52 t283.length co52) s_.1 t304) ∧ (Kd.R (Kd.int .i64) 3 w' w.heap.size (fun k_ => some k_ ≠ (s_.1 : Value).ownBlock ∧ some k_ ≠ (s_.2.2.1 : Value).ownBlock ∧ some k_ ≠ (s_.2.2.2.1 : Value).ownBlock ∧ nS k_ Ao30 t263.length co30 ∧ nS k_ Ao32 t266.length co32 ∧ nS k_ Ao38 t297.length co38 ∧ nS k_ Ao43 t298.length co43 ∧ nS k_ Ao50 t280.length co50 ∧ nS k_ Ao52 t283.length co52) s_.2.1 t307) ∧ (Kd.R (Kd.int .i64) 3 w' w.heap.size (fun k_ => some k_ ≠ (s_.1 : Value).ownBlock ∧ some k_ ≠ (s_.2.1 : Value).ownBlock ∧ some k_ ≠ (s_.2.2.2.1 : Value).ownBlock ∧ nS k_ Ao30 t263.length co30 ∧ nS k_ Ao32 t266.length co32 ∧ nS k_ Ao38 t297.length co38 ∧ nS k_ Ao43 t298.length co43 ∧ nS k_ Ao50 t280.length co50 ∧ nS k_ Ao52 t283.length co52) s_.2.2.1 t312) ∧ (Kd.R (Kd.int .i64) 3 w' w.heap.size (fun k_ => some k_ ≠ (s_.1 : Value).ownBlock ∧ some k_ ≠ (s_.2.1 : Value).ownBlock ∧ some k_ ≠ (s_.2.2.1 : Value).ownBlock ∧ nS k_ Ao30 t263.length co30 ∧ nS k_ Ao32 t266.length co32 ∧ nS k_ Ao38 t297.length co38 ∧ nS k_ Ao43 t298.length co43 ∧ nS k_ Ao50 t280.length co50 ∧ nS k_ Ao52 t283.length co52) s_.2.2.2.1 t315) ∧ (Kd.R (Kd.int .i64) 3 w' w.heap.size (fun k_ => some k_ ≠ (s_.1 : Value).ownBlock ∧ some k_ ≠ (s_.2.1 : Value).ownBlock ∧ some k_ ≠ (s_.2.2.1 : Value).ownBlock ∧ some k_ ≠ (s_.2.2.2.1 : Value).ownBlock ∧ nS k_ Ao32 t266.length co32 ∧ nS k_ Ao38 t297.length co38 ∧ nS k_ Ao43 t298.length co43 ∧ nS k_ Ao50 t280.length co50 ∧ nS k_ Ao52 t283.length co52) (.slice Ao30 t263.length co30) t263) ∧ (Kd.R (Kd.int .i64) 3 w' w.heap.size (fun k_ => some k_ ≠ (s_.1 : Value).ownBlock ∧ some k_ ≠ (s_.2.1 : Value).ownBlock ∧ some k_ ≠ (s_.2.2.1 : Value).ownBlock ∧ some k_ ≠ (s_.2.2.2.1 : Value).ownBlock ∧ nS k_ Ao30 t263.length co30 ∧ nS k_ Ao38 t297.length co38 ∧ nS k_ Ao43 t298.length co43 ∧ nS k_ Ao50 t280.length co50 ∧ nS k_ Ao52 t283.length co52) (.slice Ao32 t266.length co32) t266) ∧ (Kd.R (Kd.int .i64) 3 w' w.heap.size (fun k_ => some k_ ≠ (s_.1 : Value).ownBlock ∧ some k_ ≠ (s_.2.1 : Value).ownBlock ∧ some k_ ≠ (s_.2.2.1 : Value).ownBlock ∧ some k_ ≠ (s_.2.2.2.1 : Value).ownBlock ∧ nS k_ Ao30 t263.length co30 ∧ nS k_ Ao32 t266.length co32 ∧ nS k_ Ao43 t298.length co43 ∧ nS k_ Ao50 t280.length co50 ∧ nS k_ Ao52 t283.length co52) (.slice Ao38 t297.length co38) t297) ∧ (Kd.R (Kd.int .i64) 3 w' w.heap.size (fun k_ => some k_ ≠ (s_.1 : Value).ownBlock ∧ some k_ ≠ (s_.2.1 : Value).ownBlock ∧ some k_ ≠ (s_.2.2.1 : Value).ownBlock ∧ some k_ ≠ (s_.2.2.2.1 : Value).ownBlock ∧ nS k_ Ao30 t263.length co30 ∧ nS k_ Ao32 t266.length co32 ∧ nS k_ Ao38 t297.length co38 ∧ nS k_ Ao50 t280.length co50 ∧ nS k_ Ao52 t283.length co52) (.slice Ao43 t298.length co43) t298) ∧ (Kd.R (Kd.int .i64) 3 w' w.heap.size (fun k_ => some k_ ≠ (s_.1 : Value).ownBlock ∧ some k_ ≠ (s_.2.1 : Value).ownBlock ∧ some k_ ≠ (s_.2.2.1 : Value).ownBlock ∧ some k_ ≠ (s_.2.2.2.1 : Value).ownBlock ∧ nS k_ Ao30 t263.length co30 ∧ nS k_ Ao32 t266.length co32 ∧ nS k_ Ao38 t297.length co38 ∧ nS k_ Ao43 t298.length co43 ∧ nS k_ Ao52 t283.length co52) (.slice Ao50 t280.length co50) t301) ∧ (Kd.R (Kd.int .i64) 3 w' w.heap.size (fun k_ => some k_ ≠ (s_.1 : Value).ownBlock ∧ some k_ ≠ (s_.2.1 : Value).ownBlock ∧ some k_ ≠ (s_.2.2.1 : Value).ownBlock ∧ some k_ ≠ (s_.2.2.2.1 : Value).ownBlock ∧ nS k_ Ao30 t263.length co30 ∧ nS k_ Ao32 t266.length co32 ∧ nS k_ Ao38 t297.length co38 ∧ nS k_ Ao43 t298.length co43 ∧ nS k_ Ao50 t280.length co50) (.slice Ao52 t283.length co52) t302) ∧ (w'.heap[gb252]? = some (.cells #[.slice A0_0 l0_0.length c0_0, .slice A0_1 l0_1.length c0_1] 24 (0, 0))) ∧ (w'.heap[gb253]? = some (.cells #[.int .i64 a1_0, .int .i64 a1_1] 39 (0, 0))) ∧ (w'.heap[gb270]? = some (.cells #[.slice Ao30 t263.length co30, .slice Ao32 t266.length co32] 26 (0, 0))) ∧ (w'.heap[gb277]? = some (.cells #[.slice Ao38 t297.length co38, .slice Ao43 t298.length co43] 26 (0, 0))) ∧ (w'.heap[gb287]? = some (.cells #[.slice Ao50 t280.length co50, .slice Ao52 t283.length co52] 26 (0, 0))) ∧ (w'.heap[s_.2.2.2.2]? = some (.cells #[.slice none 0 0, .slice none 0 0] 26 (0, 0))) ∧ (w.heap.size ≤ s_.2.2.2.2) ∧ (w.heap.size ≤ s_.2.2.2.2) ∧ (gb252 ≠ s_.2.2.2.2) ∧ (s_.2.2.2.2 ≠ gb252) ∧ (gb253 ≠ s_.2.2.2.2) ∧ (s_.2.2.2.2 ≠ gb253) ∧ (gb270 ≠ s_.2.2.2.2) ∧ (s_.2.2.2.2 ≠ gb270) ∧ (gb277 ≠ s_.2.2.2.2) ∧ (s_.2.2.2.2 ≠ gb277) ∧ (gb287 ≠ s_.2.2.2.2) ∧ (s_.2.2.2.2 ≠ gb287) ∧ (Below w.heap.size w w')) ?_ ?_
           rotate_left
           ·intro hCont
            refine two_ (i := 1) (j := 8) (Ni := some 81) (Nj := some 14) #[true, true, true, false, false, false, false, false, false, false, false] #[true, false, true, false, false, false, false, false, true, false, false] rfl rfl rfl rfl (two_of HT_.out (by kernel_rfl)) (by decide) (by decide) (fun K hK => ?_) (fun K hK => ?_)
            ·skip
             refine goes_ Try.func17 (by kernel_rfl) rfl #[.agg #[.slice A0_0 l0_0.length c0_0, .slice A0_1 l0_1.length c0_1]] (by rfl) rfl rfl (by (try simp only [List.map_toArray, List.map_cons, List.map_nil]); first | done | rfl | (simp only [List.length_drop, List.length_take]; rfl)) ?_
             with_reducible refine (laws_toVessels.calls kj80 _ _ l0_0 _ _ l0_1 t304 t307 _ ?side1 ?side2 ?side3 ?side4 A121.out).mono ?_
             (case side1 => exact xd ((Kd.C_below HR0_0.out HB.out)))
             (case side2 => exact HC0_0.out)
             (case side3 => exact xd ((Kd.C_below HR0_1.out HB.out)))
             (case side4 => exact HC0_1.out)
             rintro e w134 ⟨v305, v308, rfl, ho0, ho1, hb⟩
             refine ⟨_, rfl, ?_⟩
             have HO306 := Aside0.mk (Kd.R_lower (Kd.R_new' (Kd.R_new' (Kd.R_new' (Kd.R_new' (Kd.R_new' (Kd.R_new' ho0 (Kd.R_lt (xr HO_271000.out))) (Kd.R_lt (xr HO_271001.out))) (Kd.R_lt (xr HO_278000.out))) (Kd.R_lt (xr HO_278001.out))) (Kd.R_lt (xr HO_288000.out))) (Kd.R_lt (xr HO_288001.out))) (below_size (xs HB.out)))
             have HO309 := Aside0.mk (Kd.R_lower (Kd.R_new' (Kd.R_new' (Kd.R_new' (Kd.R_new' (Kd.R_new' (Kd.R_new' ho1 (Kd.R_lt (xr HO_271000.out))) (Kd.R_lt (xr HO_271001.out))) (Kd.R_lt (xr HO_278000.out))) (Kd.R_lt (xr HO_278001.out))) (Kd.R_lt (xr HO_288000.out))) (Kd.R_lt (xr HO_288001.out))) (below_size (xs HB.out)))
             replace HO_271000 := xt HO_271000 hb ho0 ho1
             replace HO_271001 := xt HO_271001 hb ho0 ho1
             replace HO_278000 := xt HO_278000 hb ho0 ho1
             replace HO_278001 := xt HO_278001 hb ho0 ho1
             replace HO_288000 := xt HO_288000 hb ho0 ho1
             replace HO_288001 := xt HO_288001 hb ho0 ho1
             replace BK252 := xk BK252 hb
             replace BK253 := xk BK253 hb
             replace BK270 := xk BK270 hb
             replace BK277 := xk BK277 hb
             replace BK287 := xk BK287 hb
             replace HB := xp HB hb
             (try clear hb)
             (try clear hb2)
             (try clear hk)
             (try clear hi)
             (try clear ho0)
             (try clear ho1)
             refine hK.out _ _ ⟨(blk_cell BK252.out 0).trans rfl, (blk_cell BK252.out 1).trans rfl, (blk_cell BK253.out 0).trans rfl, (blk_cell BK253.out 1).trans rfl⟩ (fun hHeld => ?_)
             clear hK K
             refine norm_ (a' := ?_) ?_ ?_
             rotate_left
             ·show Act.put _ (some 81) _ = _
              simp only [Act.put, List.setIfInBounds_toArray, List.set_cons_zero, List.set_cons_succ, i64_w, i32_w]
              rfl
             refine two_ (i := 3) (j := 8) (Ni := some 83) (Nj := some 14) #[true, true, true, true, false, false, false, false, false, false, false] #[true, true, true, false, false, false, false, false, true, false, false] rfl rfl rfl rfl (two_of HT_.out (by kernel_rfl)) (by decide) (by decide) (fun K hK => ?_) (fun K hK => ?_)
             ·skip
              refine goes_ Try.func27 (by kernel_rfl) rfl #[.agg #[.int .i64 a1_0, .int .i64 a1_1]] (by rfl) rfl rfl (by (try simp only [List.map_toArray, List.map_cons, List.map_nil]); first | done | rfl | (simp only [List.length_drop, List.length_take]; rfl)) ?_
              with_reducible refine (laws_toMove.calls a1_0 a1_1 t310 t311 _ A122.out).mono ?_
              rintro e w135 ⟨rfl, hb⟩
              refine ⟨_, rfl, ?_⟩
              replace HO_271000 := xq HO_271000 hb
              replace HO_271001 := xq HO_271001 hb
              replace HO_278000 := xq HO_278000 hb
              replace HO_278001 := xq HO_278001 hb
              replace HO_288000 := xq HO_288000 hb
              replace HO_288001 := xq HO_288001 hb
              replace HO306 := xq HO306 hb
              replace HO309 := xq HO309 hb
              replace BK252 := xk BK252 hb
              replace BK253 := xk BK253 hb
              replace BK270 := xk BK270 hb
              replace BK277 := xk BK277 hb
              replace BK287 := xk BK287 hb
              replace HB := xp HB hb
              (try clear hb)
              (try clear hb2)
              (try clear hk)
              (try clear hi)
              obtain ⟨Ao136, co136, eo136⟩ := Kd.R_slice HO306.out
              (first | subst eo136 | (injection eo136 with f1_ f2_ f3_; have f4_ := f1_.symm; have f5_ := f3_.symm; clear f1_ f2_ f3_; subst f4_; subst f5_))
              obtain ⟨Ao137, co137, eo137⟩ := Kd.R_slice HO309.out
              (first | subst eo137 | (injection eo137 with f1_ f2_ f3_; have f4_ := f1_.symm; have f5_ := f3_.symm; clear f1_ f2_ f3_; subst f4_; subst f5_))
              refine hK.out _ _ ⟨(blk_cell BK252.out 0).trans rfl, (blk_cell BK252.out 1).trans rfl, (blk_cell BK253.out 0).trans rfl, (blk_cell BK253.out 1).trans rfl⟩ (fun hHeld => ?_)
              clear hK K
              refine norm_ (a' := ?_) ?_ ?_
              rotate_left
              ·show Act.put _ (some 83) _ = _
               simp only [Act.put, List.setIfInBounds_toArray, List.set_cons_zero, List.set_cons_succ, i64_w, i32_w]
               rfl
              refine two_ (i := 4) (j := 8) (Ni := some 84) (Nj := some 14) #[true, true, true, true, true, false, false, false, false, false, false] #[true, true, true, true, false, false, false, false, true, false, false] rfl rfl rfl rfl (two_of HT_.out (by kernel_rfl)) (by decide) (by decide) (fun K hK => ?_) (fun K hK => ?_)
              ·skip
               refine goes_ Try.func28 (by kernel_rfl) rfl #[.agg #[.slice Ao136 t304.length co136, .slice Ao137 t307.length co137], .agg #[.int .i64 t310, .int .i64 t311]] (by rfl) rfl rfl (by (try simp only [List.map_toArray, List.map_cons, List.map_nil]); first | done | rfl | (simp only [List.length_drop, List.length_take]; rfl)) ?_
               with_reducible refine (impl_MakeMove.calls kj80 _ _ t304 _ _ t307 t310 t311 t312 t315 t318 _ ?side1 ?side2 ?side3 ?side4 A123.out).mono ?_
               (case side1 => exact xd ((Kd.R_reads' HO306.out).2.2))
               (case side2 => exact (Kd.R_reads' HO306.out).2.1)
               (case side3 => exact xd ((Kd.R_reads' HO309.out).2.2))
               (case side4 => exact (Kd.R_reads' HO309.out).2.1)
               rintro e w138 ⟨v313, v316, rfl, ho0, ho1, hb⟩
               refine ⟨_, rfl, ?_⟩
               have HO314 := Aside0.mk (Kd.R_lower (Kd.R_new' (Kd.R_new' (Kd.R_new' (Kd.R_new' (Kd.R_new' (Kd.R_new' (Kd.R_new' (Kd.R_new' ho0 (Kd.R_lt (xr HO_271000.out))) (Kd.R_lt (xr HO_271001.out))) (Kd.R_lt (xr HO_278000.out))) (Kd.R_lt (xr HO_278001.out))) (Kd.R_lt (xr HO_288000.out))) (Kd.R_lt (xr HO_288001.out))) (Kd.R_lt (xr HO306.out))) (Kd.R_lt (xr HO309.out))) (below_size (xs HB.out)))
               have HO317 := Aside0.mk (Kd.R_lower (Kd.R_new' (Kd.R_new' (Kd.R_new' (Kd.R_new' (Kd.R_new' (Kd.R_new' (Kd.R_new' (Kd.R_new' ho1 (Kd.R_lt (xr HO_271000.out))) (Kd.R_lt (xr HO_271001.out))) (Kd.R_lt (xr HO_278000.out))) (Kd.R_lt (xr HO_278001.out))) (Kd.R_lt (xr HO_288000.out))) (Kd.R_lt (xr HO_288001.out))) (Kd.R_lt (xr HO306.out))) (Kd.R_lt (xr HO309.out))) (below_size (xs HB.out)))
               replace HO_271000 := xt HO_271000 hb ho0 ho1
               replace HO_271001 := xt HO_271001 hb ho0 ho1
               replace HO_278000 := xt HO_278000 hb ho0 ho1
               replace HO_278001 := xt HO_278001 hb ho0 ho1
               replace HO_288000 := xt HO_288000 hb ho0 ho1
               replace HO_288001 := xt HO_288001 hb ho0 ho1
               replace HO306 := xt HO306 hb ho0 ho1
               replace HO309 := xt HO309 hb ho0 ho1
               replace BK252 := xk BK252 hb
               replace BK253 := xk BK253 hb
               replace BK270 := xk BK270 hb
               replace BK277 := xk BK277 hb
               replace BK287 := xk BK287 hb
               replace HB := xp HB hb
               (try clear hb)
               (try clear hb2)
               (try clear hk)
               (try clear hi)
               (try clear ho0)
               (try clear ho1)
               refine hK.out _ _ ⟨(blk_cell BK252.out 0).trans rfl, (blk_cell BK252.out 1).trans rfl, (blk_cell BK253.out 0).trans rfl, (blk_cell BK253.out 1).trans rfl⟩ (fun hHeld => ?_)
               clear hK K
               refine norm_ (a' := ?_) ?_ ?_
               rotate_left
               ·show Act.put _ (some 84) _ = _
                simp only [Act.put, List.setIfInBounds_toArray, List.set_cons_zero, List.set_cons_succ, i64_w, i32_w]
                rfl
               refine pure_ (i := 5) (N := some 79) (v := ?_) (a' := ?_) #[true, true, true, true, true, true, false, false, false, false, false] rfl rfl (any_of HT_.out (by kernel_rfl)) (fun _ _ _ h => h) (Or.inl ⟨by rfl, ?_⟩) ?_ ?_
               rotate_left
               ·intro w'
                go_simp
                with_reducible rfl
               rotate_left
               ·simp only [Act.put, List.setIfInBounds_toArray, List.set_cons_zero, List.set_cons_succ, i64_w, i32_w]
                rfl
               refine pure_ (i := 6) (N := some 85) (v := ?_) (a' := ?_) #[true, true, true, true, true, true, true, false, false, false, false] rfl rfl (any_of HT_.out (by kernel_rfl)) (fun _ _ _ h => h) (Or.inl ⟨by rfl, ?_⟩) ?_ ?_
               rotate_left
               ·intro w'
                go_simp
                with_reducible rfl
               rotate_left
               ·simp only [Act.put, List.setIfInBounds_toArray, List.set_cons_zero, List.set_cons_succ, i64_w, i32_w]
                rfl
               refine pure_ (i := 7) (N := some 86) (v := ?_) (a' := ?_) #[true, true, true, true, true, true, true, true, false, false, false] rfl rfl (any_of HT_.out (by kernel_rfl)) (fun _ _ _ h => h) (Or.inl ⟨by rfl, ?_⟩) ?_ ?_
               rotate_left
               ·intro w'
                go_simp
                with_reducible rfl
               rotate_left
               ·simp only [Act.put, List.setIfInBounds_toArray, List.set_cons_zero, List.set_cons_succ, i64_w, i32_w]
                rfl
               refine one_ (i := 8) (N := some 14) #[true, true, true, true, true, true, true, true, true, false, false] rfl rfl (one_of HT_.out (by kernel_rfl)) (by decide) (fun K hK => ?_)
               refine box_step ?hg (N := 14) ?hd (cs := #[.slice none 0 0, .slice none 0 0]) (t := 26) ?hr ?_; (case hd => rfl); (case hg => rfl); (case hr => first | (go_simp; done) | (go_simp; rfl))
               intro gb319 hg w139 hbox hb
               replace HO_271000 := xq HO_271000 hb
               replace HO_271001 := xq HO_271001 hb
               replace HO_278000 := xq HO_278000 hb
               replace HO_278001 := xq HO_278001 hb
               replace HO_288000 := xq HO_288000 hb
               replace HO_288001 := xq HO_288001 hb
               replace HO306 := xq HO306 hb
               replace HO309 := xq HO309 hb
               replace HO314 := xq HO314 hb
               replace HO317 := xq HO317 hb
               have BK319 := Aside0.mk (hbox)
               have GW319 := xg HB hg
               have GE319 := xg HB hg
               replace HB := xp HB hb
               have NB252_319 := xl BK252 hg
               have NB319_252 := xh BK252 hg
               replace BK252 := xk BK252 hb
               have NB253_319 := xl BK253 hg
               have NB319_253 := xh BK253 hg
               replace BK253 := xk BK253 hb
               have NB270_319 := xl BK270 hg
               have NB319_270 := xh BK270 hg
               replace BK270 := xk BK270 hb
               have NB277_319 := xl BK277 hg
               have NB319_277 := xh BK277 hg
               replace BK277 := xk BK277 hb
               have NB287_319 := xl BK287 hg
               have NB319_287 := xh BK287 hg
               replace BK287 := xk BK287 hb
               clear hb hbox hg
               refine hK.out _ _ ⟨(blk_cell BK252.out 0).trans rfl, (blk_cell BK252.out 1).trans rfl, (blk_cell BK253.out 0).trans rfl, (blk_cell BK253.out 1).trans rfl⟩ (fun hHeld => ?_)
               clear hK K
               refine norm_ (a' := ?_) ?_ ?_
               rotate_left
               ·show Act.put _ (some 14) _ = _
                simp only [Act.put, List.setIfInBounds_toArray, List.set_cons_zero, List.set_cons_succ, i64_w, i32_w]
                rfl
               exact norm_ (by simp only [putAll, Act.put, List.setIfInBounds_toArray, List.set_cons_zero, List.set_cons_succ]) (hCont (.slice Ao136 t304.length co136, .slice Ao137 t307.length co137, v313, v316, gb319) _ ⟨hHeld, (xm HO306 (fun _ hk => ⟨hk.1.1.1.1.1.1.1.1, ⟨hk.1.2, ⟨hk.2, ⟨hk.1.1.1.1.1.1.1.2, ⟨hk.1.1.1.1.1.1.2, ⟨hk.1.1.1.1.1.2, ⟨hk.1.1.1.1.2, ⟨hk.1.1.1.2, hk.1.1.2⟩⟩⟩⟩⟩⟩⟩⟩)), (xm HO309 (fun _ hk => ⟨hk.1.1.1.1.1.1.1.1, ⟨hk.1.2, ⟨hk.2, ⟨hk.1.1.1.1.1.1.1.2, ⟨hk.1.1.1.1.1.1.2, ⟨hk.1.1.1.1.1.2, ⟨hk.1.1.1.1.2, ⟨hk.1.1.1.2, hk.1.1.2⟩⟩⟩⟩⟩⟩⟩⟩)), (xm HO314 (fun _ hk => ⟨hk.1.2, ⟨hk.2, ⟨hk.1.1.1.1.1.1.1.1, ⟨hk.1.1.1.1.1.1.1.2, ⟨hk.1.1.1.1.1.1.2, ⟨hk.1.1.1.1.1.2, ⟨hk.1.1.1.1.2, ⟨hk.1.1.1.2, hk.1.1.2⟩⟩⟩⟩⟩⟩⟩⟩)), (xm HO317 (fun _ hk => ⟨hk.1.2, ⟨hk.2, ⟨hk.1.1.1.1.1.1.1.1, ⟨hk.1.1.1.1.1.1.1.2, ⟨hk.1.1.1.1.1.1.2, ⟨hk.1.1.1.1.1.2, ⟨hk.1.1.1.1.2, ⟨hk.1.1.1.2, hk.1.1.2⟩⟩⟩⟩⟩⟩⟩⟩)), (xm HO_271000 (fun _ hk => ⟨hk.1.1.1.2, ⟨hk.1.1.2, ⟨hk.1.2, ⟨hk.2, ⟨hk.1.1.1.1.1, ⟨hk.1.1.1.1.2.1, ⟨hk.1.1.1.1.2.2.1, ⟨hk.1.1.1.1.2.2.2.1, hk.1.1.1.1.2.2.2.2⟩⟩⟩⟩⟩⟩⟩⟩)), (xm HO_271001 (fun _ hk => ⟨hk.1.1.1.2, ⟨hk.1.1.2, ⟨hk.1.2, ⟨hk.2, ⟨hk.1.1.1.1.1, ⟨hk.1.1.1.1.2.1, ⟨hk.1.1.1.1.2.2.1, ⟨hk.1.1.1.1.2.2.2.1, hk.1.1.1.1.2.2.2.2⟩⟩⟩⟩⟩⟩⟩⟩)), (xm HO_278000 (fun _ hk => ⟨hk.1.1.1.2, ⟨hk.1.1.2, ⟨hk.1.2, ⟨hk.2, ⟨hk.1.1.1.1.1, ⟨hk.1.1.1.1.2.1, ⟨hk.1.1.1.1.2.2.1, ⟨hk.1.1.1.1.2.2.2.1, hk.1.1.1.1.2.2.2.2⟩⟩⟩⟩⟩⟩⟩⟩)), (xm HO_278001 (fun _ hk => ⟨hk.1.1.1.2, ⟨hk.1.1.2, ⟨hk.1.2, ⟨hk.2, ⟨hk.1.1.1.1.1, ⟨hk.1.1.1.1.2.1, ⟨hk.1.1.1.1.2.2.1, ⟨hk.1.1.1.1.2.2.2.1, hk.1.1.1.1.2.2.2.2⟩⟩⟩⟩⟩⟩⟩⟩)), (xm HO_288000 (fun _ hk => ⟨hk.1.1.1.2, ⟨hk.1.1.2, ⟨hk.1.2, ⟨hk.2, ⟨hk.1.1.1.1.1, ⟨hk.1.1.1.1.2.1, ⟨hk.1.1.1.1.2.2.1, ⟨hk.1.1.1.1.2.2.2.1, hk.1.1.1.1.2.2.2.2⟩⟩⟩⟩⟩⟩⟩⟩)), (xm HO_288001 (fun _ hk => ⟨hk.1.1.1.2, ⟨hk.1.1.2, ⟨hk.1.2, ⟨hk.2, ⟨hk.1.1.1.1.1, ⟨hk.1.1.1.1.2.1, ⟨hk.1.1.1.1.2.2.1, ⟨hk.1.1.1.1.2.2.2.1, hk.1.1.1.1.2.2.2.2⟩⟩⟩⟩⟩⟩⟩⟩)), (xb BK252.out), (xb BK253.out), (xb BK270.out), (xb BK277.out), (xb BK287.out), (xb BK319.out), GW319.out, GE319.out, NB252_319.out, NB319_252.out, NB253_319.out, NB319_253.out, NB270_319.out, NB319_270.out, NB277_319.out, NB319_277.out, NB287_319.out, NB319_287.out, (xs HB.out)⟩)
              ·skip
               refine box_step ?hg (N := 14) ?hd (cs := #[.slice none 0 0, .slice none 0 0]) (t := 26) ?hr ?_; (case hd => rfl); (case hg => rfl); (case hr => first | (go_simp; done) | (go_simp; rfl))
               intro gb319 hg w136 hbox hb
               replace HO_271000 := xq HO_271000 hb
               replace HO_271001 := xq HO_271001 hb
               replace HO_278000 := xq HO_278000 hb
               replace HO_278001 := xq HO_278001 hb
               replace HO_288000 := xq HO_288000 hb
               replace HO_288001 := xq HO_288001 hb
               replace HO306 := xq HO306 hb
               replace HO309 := xq HO309 hb
               have BK319 := Aside0.mk (hbox)
               have GW319 := xg HB hg
               have GE319 := xg HB hg
               replace HB := xp HB hb
               have NB252_319 := xl BK252 hg
               have NB319_252 := xh BK252 hg
               replace BK252 := xk BK252 hb
               have NB253_319 := xl BK253 hg
               have NB319_253 := xh BK253 hg
               replace BK253 := xk BK253 hb
               have NB270_319 := xl BK270 hg
               have NB319_270 := xh BK270 hg
               replace BK270 := xk BK270 hb
               have NB277_319 := xl BK277 hg
               have NB319_277 := xh BK277 hg
               replace BK277 := xk BK277 hb
               have NB287_319 := xl BK287 hg
               have NB319_287 := xh BK287 hg
               replace BK287 := xk BK287 hb
               clear hb hbox hg
               obtain ⟨Ao137, co137, eo137⟩ := Kd.R_slice HO306.out
               (first | subst eo137 | (injection eo137 with f1_ f2_ f3_; have f4_ := f1_.symm; have f5_ := f3_.symm; clear f1_ f2_ f3_; subst f4_; subst f5_))
               obtain ⟨Ao138, co138, eo138⟩ := Kd.R_slice HO309.out
               (first | subst eo138 | (injection eo138 with f1_ f2_ f3_; have f4_ := f1_.symm; have f5_ := f3_.symm; clear f1_ f2_ f3_; subst f4_; subst f5_))
               refine hK.out _ _ ⟨(blk_cell BK252.out 0).trans rfl, (blk_cell BK252.out 1).trans rfl, (blk_cell BK253.out 0).trans rfl, (blk_cell BK253.out 1).trans rfl⟩ (fun hHeld => ?_)
               clear hK K
               refine norm_ (a' := ?_) ?_ ?_
               rotate_left
               ·show Act.put _ (some 14) _ = _
                simp only [Act.put, List.setIfInBounds_toArray, List.set_cons_zero, List.set_cons_succ, i64_w, i32_w]
                rfl
               refine one_ (i := 4) (N := some 84) #[true, true, true, true, true, false, false, false, true, false, false] rfl rfl (one_of HT_.out (by kernel_rfl)) (by decide) (fun K hK => ?_)
               refine goes_ Try.func28 (by kernel_rfl) rfl #[.agg #[.slice Ao137 t304.length co137, .slice Ao138 t307.length co138], .agg #[.int .i64 t310, .int .i64 t311]] (by rfl) rfl rfl (by (try simp only [List.map_toArray, List.map_cons, List.map_nil]); first | done | rfl | (simp only [List.length_drop, List.length_take]; rfl)) ?_
               with_reducible refine (impl_MakeMove.calls kj80 _ _ t304 _ _ t307 t310 t311 t312 t315 t318 _ ?side1 ?side2 ?side3 ?side4 A123.out).mono ?_
               (case side1 => exact xd ((Kd.R_reads' HO306.out).2.2))
               (case side2 => exact (Kd.R_reads' HO306.out).2.1)
               (case side3 => exact xd ((Kd.R_reads' HO309.out).2.2))
               (case side4 => exact (Kd.R_reads' HO309.out).2.1)
               rintro e w139 ⟨v313, v316, rfl, ho0, ho1, hb⟩
               refine ⟨_, rfl, ?_⟩
               have HO314 := Aside0.mk (Kd.R_lower (Kd.R_new' (Kd.R_new' (Kd.R_new' (Kd.R_new' (Kd.R_new' (Kd.R_new' (Kd.R_new' (Kd.R_new' ho0 (Kd.R_lt (xr HO_271000.out))) (Kd.R_lt (xr HO_271001.out))) (Kd.R_lt (xr HO_278000.out))) (Kd.R_lt (xr HO_278001.out))) (Kd.R_lt (xr HO_288000.out))) (Kd.R_lt (xr HO_288001.out))) (Kd.R_lt (xr HO306.out))) (Kd.R_lt (xr HO309.out))) (below_size (xs HB.out)))
               have HO317 := Aside0.mk (Kd.R_lower (Kd.R_new' (Kd.R_new' (Kd.R_new' (Kd.R_new' (Kd.R_new' (Kd.R_new' (Kd.R_new' (Kd.R_new' ho1 (Kd.R_lt (xr HO_271000.out))) (Kd.R_lt (xr HO_271001.out))) (Kd.R_lt (xr HO_278000.out))) (Kd.R_lt (xr HO_278001.out))) (Kd.R_lt (xr HO_288000.out))) (Kd.R_lt (xr HO_288001.out))) (Kd.R_lt (xr HO306.out))) (Kd.R_lt (xr HO309.out))) (below_size (xs HB.out)))
               replace HO_271000 := xt HO_271000 hb ho0 ho1
               replace HO_271001 := xt HO_271001 hb ho0 ho1
               replace HO_278000 := xt HO_278000 hb ho0 ho1
               replace HO_278001 := xt HO_278001 hb ho0 ho1
               replace HO_288000 := xt HO_288000 hb ho0 ho1
               replace HO_288001 := xt HO_288001 hb ho0 ho1
               replace HO306 := xt HO306 hb ho0 ho1
               replace HO309 := xt HO309 hb ho0 ho1
               replace BK252 := xk BK252 hb
               replace BK253 := xk BK253 hb
               replace BK270 := xk BK270 hb
               replace BK277 := xk BK277 hb
               replace BK287 := xk BK287 hb
               replace BK319 := xk BK319 hb
               replace HB := xp HB hb
               (try clear hb)
               (try clear hb2)
               (try clear hk)
               (try clear hi)
               (try clear ho0)
               (try clear ho1)
               refine hK.out _ _ ⟨(blk_cell BK252.out 0).trans rfl, (blk_cell BK252.out 1).trans rfl, (blk_cell BK253.out 0).trans rfl, (blk_cell BK253.out 1).trans rfl⟩ (fun hHeld => ?_)
               clear hK K
               refine norm_ (a' := ?_) ?_ ?_
               rotate_left
               ·show Act.put _ (some 84) _ = _
                simp only [Act.put, List.setIfInBounds_toArray, List.set_cons_zero, List.set_cons_succ, i64_w, i32_w]
                rfl
               refine pure_ (i := 5) (N := some 79) (v := ?_) (a' := ?_) #[true, true, true, true, true, true, false, false, true, false, false] rfl rfl (any_of HT_.out (by kernel_rfl)) (fun _ _ _ h => h) (Or.inl ⟨by rfl, ?_⟩) ?_ ?_
               rotate_left
               ·intro w'
                go_simp
                with_reducible rfl
               rotate_left
               ·simp only [Act.put, List.setIfInBounds_toArray, List.set_cons_zero, List.set_cons_succ, i64_w, i32_w]
                rfl
               refine pure_ (i := 6) (N := some 85) (v := ?_) (a' := ?_) #[true, true, true, true, true, true, true, false, true, false, false] rfl rfl (any_of HT_.out (by kernel_rfl)) (fun _ _ _ h => h) (Or.inl ⟨by rfl, ?_⟩) ?_ ?_
               rotate_left
               ·intro w'
                go_simp
                with_reducible rfl
               rotate_left
               ·simp only [Act.put, List.setIfInBounds_toArray, List.set_cons_zero, List.set_cons_succ, i64_w, i32_w]
                rfl
               refine pure_ (i := 7) (N := some 86) (v := ?_) (a' := ?_) #[true, true, true, true, true, true, true, true, true, false, false] rfl rfl (any_of HT_.out (by kernel_rfl)) (fun _ _ _ h => h) (Or.inl ⟨by rfl, ?_⟩) ?_ ?_
               rotate_left
               ·intro w'
                go_simp
                with_reducible rfl
               rotate_left
               ·simp only [Act.put, List.setIfInBounds_toArray, List.set_cons_zero, List.set_cons_succ, i64_w, i32_w]
                rfl
               exact norm_ (by simp only [putAll, Act.put, List.setIfInBounds_toArray, List.set_cons_zero, List.set_cons_succ]) (hCont (.slice Ao137 t304.length co137, .slice Ao138 t307.length co138, v313, v316, gb319) _ ⟨hHeld, (xm HO306 (fun _ hk => ⟨hk.1.1.1.1.1.1.1.1, ⟨hk.1.2, ⟨hk.2, ⟨hk.1.1.1.1.1.1.1.2, ⟨hk.1.1.1.1.1.1.2, ⟨hk.1.1.1.1.1.2, ⟨hk.1.1.1.1.2, ⟨hk.1.1.1.2, hk.1.1.2⟩⟩⟩⟩⟩⟩⟩⟩)), (xm HO309 (fun _ hk => ⟨hk.1.1.1.1.1.1.1.1, ⟨hk.1.2, ⟨hk.2, ⟨hk.1.1.1.1.1.1.1.2, ⟨hk.1.1.1.1.1.1.2, ⟨hk.1.1.1.1.1.2, ⟨hk.1.1.1.1.2, ⟨hk.1.1.1.2, hk.1.1.2⟩⟩⟩⟩⟩⟩⟩⟩)), (xm HO314 (fun _ hk => ⟨hk.1.2, ⟨hk.2, ⟨hk.1.1.1.1.1.1.1.1, ⟨hk.1.1.1.1.1.1.1.2, ⟨hk.1.1.1.1.1.1.2, ⟨hk.1.1.1.1.1.2, ⟨hk.1.1.1.1.2, ⟨hk.1.1.1.2, hk.1.1.2⟩⟩⟩⟩⟩⟩⟩⟩)), (xm HO317 (fun _ hk => ⟨hk.1.2, ⟨hk.2, ⟨hk.1.1.1.1.1.1.1.1, ⟨hk.1.1.1.1.1.1.1.2, ⟨hk.1.1.1.1.1.1.2, ⟨hk.1.1.1.1.1.2, ⟨hk.1.1.1.1.2, ⟨hk.1.1.1.2, hk.1.1.2⟩⟩⟩⟩⟩⟩⟩⟩)), (xm HO_271000 (fun _ hk => ⟨hk.1.1.1.2, ⟨hk.1.1.2, ⟨hk.1.2, ⟨hk.2, ⟨hk.1.1.1.1.1, ⟨hk.1.1.1.1.2.1, ⟨hk.1.1.1.1.2.2.1, ⟨hk.1.1.1.1.2.2.2.1, hk.1.1.1.1.2.2.2.2⟩⟩⟩⟩⟩⟩⟩⟩)), (xm HO_271001 (fun _ hk => ⟨hk.1.1.1.2, ⟨hk.1.1.2, ⟨hk.1.2, ⟨hk.2, ⟨hk.1.1.1.1.1, ⟨hk.1.1.1.1.2.1, ⟨hk.1.1.1.1.2.2.1, ⟨hk.1.1.1.1.2.2.2.1, hk.1.1.1.1.2.2.2.2⟩⟩⟩⟩⟩⟩⟩⟩)), (xm HO_278000 (fun _ hk => ⟨hk.1.1.1.2, ⟨hk.1.1.2, ⟨hk.1.2, ⟨hk.2, ⟨hk.1.1.1.1.1, ⟨hk.1.1.1.1.2.1, ⟨hk.1.1.1.1.2.2.1, ⟨hk.1.1.1.1.2.2.2.1, hk.1.1.1.1.2.2.2.2⟩⟩⟩⟩⟩⟩⟩⟩)), (xm HO_278001 (fun _ hk => ⟨hk.1.1.1.2, ⟨hk.1.1.2, ⟨hk.1.2, ⟨hk.2, ⟨hk.1.1.1.1.1, ⟨hk.1.1.1.1.2.1, ⟨hk.1.1.1.1.2.2.1, ⟨hk.1.1.1.1.2.2.2.1, hk.1.1.1.1.2.2.2.2⟩⟩⟩⟩⟩⟩⟩⟩)), (xm HO_288000 (fun _ hk => ⟨hk.1.1.1.2, ⟨hk.1.1.2, ⟨hk.1.2, ⟨hk.2, ⟨hk.1.1.1.1.1, ⟨hk.1.1.1.1.2.1, ⟨hk.1.1.1.1.2.2.1, ⟨hk.1.1.1.1.2.2.2.1, hk.1.1.1.1.2.2.2.2⟩⟩⟩⟩⟩⟩⟩⟩)), (xm HO_288001 (fun _ hk => ⟨hk.1.1.1.2, ⟨hk.1.1.2, ⟨hk.1.2, ⟨hk.2, ⟨hk.1.1.1.1.1, ⟨hk.1.1.1.1.2.1, ⟨hk.1.1.1.1.2.2.1, ⟨hk.1.1.1.1.2.2.2.1, hk.1.1.1.1.2.2.2.2⟩⟩⟩⟩⟩⟩⟩⟩)), (xb BK252.out), (xb BK253.out), (xb BK270.out), (xb BK277.out), (xb BK287.out), (xb BK319.out), GW319.out, GE319.out, NB252_319.out, NB319_252.out, NB253_319.out, NB319_253.out, NB270_319.out, NB319_270.out, NB277_319.out, NB319_277.out, NB287_319.out, NB319_287.out, (xs HB.out)⟩)
             ·skip
              refine box_step ?hg (N := 14) ?hd (cs := #[.slice none 0 0, .slice none 0 0]) (t := 26) ?hr ?_; (case hd => rfl); (case hg => rfl); (case hr => first | (go_simp; done) | (go_simp; rfl))
              intro gb319 hg w135 hbox hb
              replace HO_271000 := xq HO_271000 hb
              replace HO_271001 := xq HO_271001 hb
              replace HO_278000 := xq HO_278000 hb
              replace HO_278001 := xq HO_278001 hb
              replace HO_288000 := xq HO_288000 hb
              replace HO_288001 := xq HO_288001 hb
              replace HO306 := xq HO306 hb
              replace HO309 := xq HO309 hb
              have BK319 := Aside0.mk (hbox)
              have GW319 := xg HB hg
              have GE319 := xg HB hg
              replace HB := xp HB hb
              have NB252_319 := xl BK252 hg
              have NB319_252 := xh BK252 hg
              replace BK252 := xk BK252 hb
              have NB253_319 := xl BK253 hg
              have NB319_253 := xh BK253 hg
              replace BK253 := xk BK253 hb
              have NB270_319 := xl BK270 hg
              have NB319_270 := xh BK270 hg
              replace BK270 := xk BK270 hb
              have NB277_319 := xl BK277 hg
              have NB319_277 := xh BK277 hg
              replace BK277 := xk BK277 hb
              have NB287_319 := xl BK287 hg
              have NB319_287 := xh BK287 hg
              replace BK287 := xk BK287 hb
              clear hb hbox hg
              refine hK.out _ _ ⟨(blk_cell BK252.out 0).trans rfl, (blk_cell BK252.out 1).trans rfl, (blk_cell BK253.out 0).trans rfl, (blk_cell BK253.out 1).trans rfl⟩ (fun hHeld => ?_)
              clear hK K
              refine norm_ (a' := ?_) ?_ ?_
              rotate_left
              ·show Act.put _ (some 14) _ = _
               simp only [Act.put, List.setIfInBounds_toArray, List.set_cons_zero, List.set_cons_succ, i64_w, i32_w]
               rfl
              refine one_ (i := 3) (N := some 83) #[true, true, true, true, false, false, false, false, true, false, false] rfl rfl (one_of HT_.out (by kernel_rfl)) (by decide) (fun K hK => ?_)
              refine goes_ Try.func27 (by kernel_rfl) rfl #[.agg #[.int .i64 a1_0, .int .i64 a1_1]] (by rfl) rfl rfl (by (try simp only [List.map_toArray, List.map_cons, List.map_nil]); first | done | rfl | (simp only [List.length_drop, List.length_take]; rfl)) ?_
              with_reducible refine (laws_toMove.calls a1_0 a1_1 t310 t311 _ A122.out).mono ?_
              rintro e w136 ⟨rfl, hb⟩
              refine ⟨_, rfl, ?_⟩
              replace HO_271000 := xq HO_271000 hb
              replace HO_271001 := xq HO_271001 hb
              replace HO_278000 := xq HO_278000 hb
              replace HO_278001 := xq HO_278001 hb
              replace HO_288000 := xq HO_288000 hb
              replace HO_288001 := xq HO_288001 hb
              replace HO306 := xq HO306 hb
              replace HO309 := xq HO309 hb
              replace BK252 := xk BK252 hb
              replace BK253 := xk BK253 hb
              replace BK270 := xk BK270 hb
              replace BK277 := xk BK277 hb
              replace BK287 := xk BK287 hb
              replace BK319 := xk BK319 hb
              replace HB := xp HB hb
              (try clear hb)
              (try clear hb2)
              (try clear hk)
              (try clear hi)
              obtain ⟨Ao137, co137, eo137⟩ := Kd.R_slice HO306.out
              (first | subst eo137 | (injection eo137 with f1_ f2_ f3_; have f4_ := f1_.symm; have f5_ := f3_.symm; clear f1_ f2_ f3_; subst f4_; subst f5_))
              obtain ⟨Ao138, co138, eo138⟩ := Kd.R_slice HO309.out
              (first | subst eo138 | (injection eo138 with f1_ f2_ f3_; have f4_ := f1_.symm; have f5_ := f3_.symm; clear f1_ f2_ f3_; subst f4_; subst f5_))
              refine hK.out _ _ ⟨(blk_cell BK252.out 0).trans rfl, (blk_cell BK252.out 1).trans rfl, (blk_cell BK253.out 0).trans rfl, (blk_cell BK253.out 1).trans rfl⟩ (fun hHeld => ?_)
              clear hK K
              refine norm_ (a' := ?_) ?_ ?_
              rotate_left
              ·show Act.put _ (some 83) _ = _
               simp only [Act.put, List.setIfInBounds_toArray, List.set_cons_zero, List.set_cons_succ, i64_w, i32_w]
               rfl
              refine one_ (i := 4) (N := some 84) #[true, true, true, true, true, false, false, false, true, false, false] rfl rfl (one_of HT_.out (by kernel_rfl)) (by decide) (fun K hK => ?_)
              refine goes_ Try.func28 (by kernel_rfl) rfl #[.agg #[.slice Ao137 t304.length co137, .slice Ao138 t307.length co138], .agg #[.int .i64 t310, .int .i64 t311]] (by rfl) rfl rfl (by (try simp only [List.map_toArray, List.map_cons, List.map_nil]); first | done | rfl | (simp only [List.length_drop, List.length_take]; rfl)) ?_
              with_reducible refine (impl_MakeMove.calls kj80 _ _ t304 _ _ t307 t310 t311 t312 t315 t318 _ ?side1 ?side2 ?side3 ?side4 A123.out).mono ?_
              (case side1 => exact xd ((Kd.R_reads' HO306.out).2.2))
              (case side2 => exact (Kd.R_reads' HO306.out).2.1)
              (case side3 => exact xd ((Kd.R_reads' HO309.out).2.2))
              (case side4 => exact (Kd.R_reads' HO309.out).2.1)
              rintro e w139 ⟨v313, v316, rfl, ho0, ho1, hb⟩
              refine ⟨_, rfl, ?_⟩
              have HO314 := Aside0.mk (Kd.R_lower (Kd.R_new' (Kd.R_new' (Kd.R_new' (Kd.R_new' (Kd.R_new' (Kd.R_new' (Kd.R_new' (Kd.R_new' ho0 (Kd.R_lt (xr HO_271000.out))) (Kd.R_lt (xr HO_271001.out))) (Kd.R_lt (xr HO_278000.out))) (Kd.R_lt (xr HO_278001.out))) (Kd.R_lt (xr HO_288000.out))) (Kd.R_lt (xr HO_288001.out))) (Kd.R_lt (xr HO306.out))) (Kd.R_lt (xr HO309.out))) (below_size (xs HB.out)))
              have HO317 := Aside0.mk (Kd.R_lower (Kd.R_new' (Kd.R_new' (Kd.R_new' (Kd.R_new' (Kd.R_new' (Kd.R_new' (Kd.R_new' (Kd.R_new' ho1 (Kd.R_lt (xr HO_271000.out))) (Kd.R_lt (xr HO_271001.out))) (Kd.R_lt (xr HO_278000.out))) (Kd.R_lt (xr HO_278001.out))) (Kd.R_lt (xr HO_288000.out))) (Kd.R_lt (xr HO_288001.out))) (Kd.R_lt (xr HO306.out))) (Kd.R_lt (xr HO309.out))) (below_size (xs HB.out)))
              replace HO_271000 := xt HO_271000 hb ho0 ho1
              replace HO_271001 := xt HO_271001 hb ho0 ho1
              replace HO_278000 := xt HO_278000 hb ho0 ho1
              replace HO_278001 := xt HO_278001 hb ho0 ho1
              replace HO_288000 := xt HO_288000 hb ho0 ho1
              replace HO_288001 := xt HO_288001 hb ho0 ho1
              replace HO306 := xt HO306 hb ho0 ho1
              replace HO309 := xt HO309 hb ho0 ho1
              replace BK252 := xk BK252 hb
              replace BK253 := xk BK253 hb
              replace BK270 := xk BK270 hb
              replace BK277 := xk BK277 hb
              replace BK287 := xk BK287 hb
              replace BK319 := xk BK319 hb
              replace HB := xp HB hb
              (try clear hb)
              (try clear hb2)
              (try clear hk)
              (try clear hi)
              (try clear ho0)
              (try clear ho1)
              refine hK.out _ _ ⟨(blk_cell BK252.out 0).trans rfl, (blk_cell BK252.out 1).trans rfl, (blk_cell BK253.out 0).trans rfl, (blk_cell BK253.out 1).trans rfl⟩ (fun hHeld => ?_)
              clear hK K
              refine norm_ (a' := ?_) ?_ ?_
              rotate_left
              ·show Act.put _ (some 84) _ = _
               simp only [Act.put, List.setIfInBounds_toArray, List.set_cons_zero, List.set_cons_succ, i64_w, i32_w]
               rfl
              refine pure_ (i := 5) (N := some 79) (v := ?_) (a' := ?_) #[true, true, true, true, true, true, false, false, true, false, false] rfl rfl (any_of HT_.out (by kernel_rfl)) (fun _ _ _ h => h) (Or.inl ⟨by rfl, ?_⟩) ?_ ?_
              rotate_left
              ·intro w'
               go_simp
               with_reducible rfl
              rotate_left
              ·simp only [Act.put, List.setIfInBounds_toArray, List.set_cons_zero, List.set_cons_succ, i64_w, i32_w]
               rfl
              refine pure_ (i := 6) (N := some 85) (v := ?_) (a' := ?_) #[true, true, true, true, true, true, true, false, true, false, false] rfl rfl (any_of HT_.out (by kernel_rfl)) (fun _ _ _ h => h) (Or.inl ⟨by rfl, ?_⟩) ?_ ?_
              rotate_left
              ·intro w'
               go_simp
               with_reducible rfl
              rotate_left
              ·simp only [Act.put, List.setIfInBounds_toArray, List.set_cons_zero, List.set_cons_succ, i64_w, i32_w]
               rfl
              refine pure_ (i := 7) (N := some 86) (v := ?_) (a' := ?_) #[true, true, true, true, true, true, true, true, true, false, false] rfl rfl (any_of HT_.out (by kernel_rfl)) (fun _ _ _ h => h) (Or.inl ⟨by rfl, ?_⟩) ?_ ?_
              rotate_left
              ·intro w'
               go_simp
               with_reducible rfl
              rotate_left
              ·simp only [Act.put, List.setIfInBounds_toArray, List.set_cons_zero, List.set_cons_succ, i64_w, i32_w]
               rfl
              exact norm_ (by simp only [putAll, Act.put, List.setIfInBounds_toArray, List.set_cons_zero, List.set_cons_succ]) (hCont (.slice Ao137 t304.length co137, .slice Ao138 t307.length co138, v313, v316, gb319) _ ⟨hHeld, (xm HO306 (fun _ hk => ⟨hk.1.1.1.1.1.1.1.1, ⟨hk.1.2, ⟨hk.2, ⟨hk.1.1.1.1.1.1.1.2, ⟨hk.1.1.1.1.1.1.2, ⟨hk.1.1.1.1.1.2, ⟨hk.1.1.1.1.2, ⟨hk.1.1.1.2, hk.1.1.2⟩⟩⟩⟩⟩⟩⟩⟩)), (xm HO309 (fun _ hk => ⟨hk.1.1.1.1.1.1.1.1, ⟨hk.1.2, ⟨hk.2, ⟨hk.1.1.1.1.1.1.1.2, ⟨hk.1.1.1.1.1.1.2, ⟨hk.1.1.1.1.1.2, ⟨hk.1.1.1.1.2, ⟨hk.1.1.1.2, hk.1.1.2⟩⟩⟩⟩⟩⟩⟩⟩)), (xm HO314 (fun _ hk => ⟨hk.1.2, ⟨hk.2, ⟨hk.1.1.1.1.1.1.1.1, ⟨hk.1.1.1.1.1.1.1.2, ⟨hk.1.1.1.1.1.1.2, ⟨hk.1.1.1.1.1.2, ⟨hk.1.1.1.1.2, ⟨hk.1.1.1.2, hk.1.1.2⟩⟩⟩⟩⟩⟩⟩⟩)), (xm HO317 (fun _ hk => ⟨hk.1.2, ⟨hk.2, ⟨hk.1.1.1.1.1.1.1.1, ⟨hk.1.1.1.1.1.1.1.2, ⟨hk.1.1.1.1.1.1.2, ⟨hk.1.1.1.1.1.2, ⟨hk.1.1.1.1.2, ⟨hk.1.1.1.2, hk.1.1.2⟩⟩⟩⟩⟩⟩⟩⟩)), (xm HO_271000 (fun _ hk => ⟨hk.1.1.1.2, ⟨hk.1.1.2, ⟨hk.1.2, ⟨hk.2, ⟨hk.1.1.1.1.1, ⟨hk.1.1.1.1.2.1, ⟨hk.1.1.1.1.2.2.1, ⟨hk.1.1.1.1.2.2.2.1, hk.1.1.1.1.2.2.2.2⟩⟩⟩⟩⟩⟩⟩⟩)), (xm HO_271001 (fun _ hk => ⟨hk.1.1.1.2, ⟨hk.1.1.2, ⟨hk.1.2, ⟨hk.2, ⟨hk.1.1.1.1.1, ⟨hk.1.1.1.1.2.1, ⟨hk.1.1.1.1.2.2.1, ⟨hk.1.1.1.1.2.2.2.1, hk.1.1.1.1.2.2.2.2⟩⟩⟩⟩⟩⟩⟩⟩)), (xm HO_278000 (fun _ hk => ⟨hk.1.1.1.2, ⟨hk.1.1.2, ⟨hk.1.2, ⟨hk.2, ⟨hk.1.1.1.1.1, ⟨hk.1.1.1.1.2.1, ⟨hk.1.1.1.1.2.2.1, ⟨hk.1.1.1.1.2.2.2.1, hk.1.1.1.1.2.2.2.2⟩⟩⟩⟩⟩⟩⟩⟩)), (xm HO_278001 (fun _ hk => ⟨hk.1.1.1.2, ⟨hk.1.1.2, ⟨hk.1.2, ⟨hk.2, ⟨hk.1.1.1.1.1, ⟨hk.1.1.1.1.2.1, ⟨hk.1.1.1.1.2.2.1, ⟨hk.1.1.1.1.2.2.2.1, hk.1.1.1.1.2.2.2.2⟩⟩⟩⟩⟩⟩⟩⟩)), (xm HO_288000 (fun _ hk => ⟨hk.1.1.1.2, ⟨hk.1.1.2, ⟨hk.1.2, ⟨hk.2, ⟨hk.1.1.1.1.1, ⟨hk.1.1.1.1.2.1, ⟨hk.1.1.1.1.2.2.1, ⟨hk.1.1.1.1.2.2.2.1, hk.1.1.1.1.2.2.2.2⟩⟩⟩⟩⟩⟩⟩⟩)), (xm HO_288001 (fun _ hk => ⟨hk.1.1.1.2, ⟨hk.1.1.2, ⟨hk.1.2, ⟨hk.2, ⟨hk.1.1.1.1.1, ⟨hk.1.1.1.1.2.1, ⟨hk.1.1.1.1.2.2.1, ⟨hk.1.1.1.1.2.2.2.1, hk.1.1.1.1.2.2.2.2⟩⟩⟩⟩⟩⟩⟩⟩)), (xb BK252.out), (xb BK253.out), (xb BK270.out), (xb BK277.out), (xb BK287.out), (xb BK319.out), GW319.out, GE319.out, NB252_319.out, NB319_252.out, NB253_319.out, NB319_253.out, NB270_319.out, NB319_270.out, NB277_319.out, NB319_277.out, NB287_319.out, NB319_287.out, (xs HB.out)⟩)
            ·skip
             refine box_step ?hg (N := 14) ?hd (cs := #[.slice none 0 0, .slice none 0 0]) (t := 26) ?hr ?_; (case hd => rfl); (case hg => rfl); (case hr => first | (go_simp; done) | (go_simp; rfl))
             intro gb319 hg w134 hbox hb
             replace HO_271000 := xq HO_271000 hb
             replace HO_271001 := xq HO_271001 hb
             replace HO_278000 := xq HO_278000 hb
             replace HO_278001 := xq HO_278001 hb
             replace HO_288000 := xq HO_288000 hb
             replace HO_288001 := xq HO_288001 hb
             have BK319 := Aside0.mk (hbox)
             have GW319 := xg HB hg
             have GE319 := xg HB hg
             replace HB := xp HB hb
             have NB252_319 := xl BK252 hg
             have NB319_252 := xh BK252 hg
             replace BK252 := xk BK252 hb
             have NB253_319 := xl BK253 hg
             have NB319_253 := xh BK253 hg
             replace BK253 := xk BK253 hb
             have NB270_319 := xl BK270 hg
             have NB319_270 := xh BK270 hg
             replace BK270 := xk BK270 hb
             have NB277_319 := xl BK277 hg
             have NB319_277 := xh BK277 hg
             replace BK277 := xk BK277 hb
             have NB287_319 := xl BK287 hg
             have NB319_287 := xh BK287 hg
             replace BK287 := xk BK287 hb
             clear hb hbox hg
             refine hK.out _ _ ⟨(blk_cell BK252.out 0).trans rfl, (blk_cell BK252.out 1).trans rfl, (blk_cell BK253.out 0).trans rfl, (blk_cell BK253.out 1).trans rfl⟩ (fun hHeld => ?_)
             clear hK K
             refine norm_ (a' := ?_) ?_ ?_
             rotate_left
             ·show Act.put _ (some 14) _ = _
              simp only [Act.put, List.setIfInBounds_toArray, List.set_cons_zero, List.set_cons_succ, i64_w, i32_w]
              rfl
             refine one_ (i := 1) (N := some 81) #[true, true, true, false, false, false, false, false, true, false, false] rfl rfl (one_of HT_.out (by kernel_rfl)) (by decide) (fun K hK => ?_)
             refine goes_ Try.func17 (by kernel_rfl) rfl #[.agg #[.slice A0_0 l0_0.length c0_0, .slice A0_1 l0_1.length c0_1]] (by rfl) rfl rfl (by (try simp only [List.map_toArray, List.map_cons, List.map_nil]); first | done | rfl | (simp only [List.length_drop, List.length_take]; rfl)) ?_
             with_reducible refine (laws_toVessels.calls kj80 _ _ l0_0 _ _ l0_1 t304 t307 _ ?side1 ?side2 ?side3 ?side4 A121.out).mono ?_
             (case side1 => exact xd ((Kd.C_below HR0_0.out HB.out)))
             (case side2 => exact HC0_0.out)
             (case side3 => exact xd ((Kd.C_below HR0_1.out HB.out)))
             (case side4 => exact HC0_1.out)
             rintro e w135 ⟨v305, v308, rfl, ho0, ho1, hb⟩
             refine ⟨_, rfl, ?_⟩
             have HO306 := Aside0.mk (Kd.R_lower (Kd.R_new' (Kd.R_new' (Kd.R_new' (Kd.R_new' (Kd.R_new' (Kd.R_new' ho0 (Kd.R_lt (xr HO_271000.out))) (Kd.R_lt (xr HO_271001.out))) (Kd.R_lt (xr HO_278000.out))) (Kd.R_lt (xr HO_278001.out))) (Kd.R_lt (xr HO_288000.out))) (Kd.R_lt (xr HO_288001.out))) (below_size (xs HB.out)))
             have HO309 := Aside0.mk (Kd.R_lower (Kd.R_new' (Kd.R_new' (Kd.R_new' (Kd.R_new' (Kd.R_new' (Kd.R_new' ho1 (Kd.R_lt (xr HO_271000.out))) (Kd.R_lt (xr HO_271001.out))) (Kd.R_lt (xr HO_278000.out))) (Kd.R_lt (xr HO_278001.out))) (Kd.R_lt (xr HO_288000.out))) (Kd.R_lt (xr HO_288001.out))) (below_size (xs HB.out)))
             replace HO_271000 := xt HO_271000 hb ho0 ho1
             replace HO_271001 := xt HO_271001 hb ho0 ho1
             replace HO_278000 := xt HO_278000 hb ho0 ho1
             replace HO_278001 := xt HO_278001 hb ho0 ho1
             replace HO_288000 := xt HO_288000 hb ho0 ho1
             replace HO_288001 := xt HO_288001 hb ho0 ho1
             replace BK252 := xk BK252 hb
             replace BK253 := xk BK253 hb
             replace BK270 := xk BK270 hb
             replace BK277 := xk BK277 hb
             replace BK287 := xk BK287 hb
             replace BK319 := xk BK319 hb
             replace HB := xp HB hb
             (try clear hb)
             (try clear hb2)
             (try clear hk)
             (try clear hi)
             (try clear ho0)
             (try clear ho1)
             refine hK.out _ _ ⟨(blk_cell BK252.out 0).trans rfl, (blk_cell BK252.out 1).trans rfl, (blk_cell BK253.out 0).trans rfl, (blk_cell BK253.out 1).trans rfl⟩ (fun hHeld => ?_)
             clear hK K
             refine norm_ (a' := ?_) ?_ ?_
             rotate_left
             ·show Act.put _ (some 81) _ = _
              simp only [Act.put, List.setIfInBounds_toArray, List.set_cons_zero, List.set_cons_succ, i64_w, i32_w]
              rfl
             refine one_ (i := 3) (N := some 83) #[true, true, true, true, false, false, false, false, true, false, false] rfl rfl (one_of HT_.out (by kernel_rfl)) (by decide) (fun K hK => ?_)
             refine goes_ Try.func27 (by kernel_rfl) rfl #[.agg #[.int .i64 a1_0, .int .i64 a1_1]] (by rfl) rfl rfl (by (try simp only [List.map_toArray, List.map_cons, List.map_nil]); first | done | rfl | (simp only [List.length_drop, List.length_take]; rfl)) ?_
             with_reducible refine (laws_toMove.calls a1_0 a1_1 t310 t311 _ A122.out).mono ?_
             rintro e w136 ⟨rfl, hb⟩
             refine ⟨_, rfl, ?_⟩
             replace HO_271000 := xq HO_271000 hb
             replace HO_271001 := xq HO_271001 hb
             replace HO_278000 := xq HO_278000 hb
             replace HO_278001 := xq HO_278001 hb
             replace HO_288000 := xq HO_288000 hb
             replace HO_288001 := xq HO_288001 hb
             replace HO306 := xq HO306 hb
             replace HO309 := xq HO309 hb
             replace BK252 := xk BK252 hb
             replace BK253 := xk BK253 hb
             replace BK270 := xk BK270 hb
             replace BK277 := xk BK277 hb
             replace BK287 := xk BK287 hb
             replace BK319 := xk BK319 hb
             replace HB := xp HB hb
             (try clear hb)
             (try clear hb2)
             (try clear hk)
             (try clear hi)
             obtain ⟨Ao137, co137, eo137⟩ := Kd.R_slice HO306.out
             (first | subst eo137 | (injection eo137 with f1_ f2_ f3_; have f4_ := f1_.symm; have f5_ := f3_.symm; clear f1_ f2_ f3_; subst f4_; subst f5_))
             obtain ⟨Ao138, co138, eo138⟩ := Kd.R_slice HO309.out
             (first | subst eo138 | (injection eo138 with f1_ f2_ f3_; have f4_ := f1_.symm; have f5_ := f3_.symm; clear f1_ f2_ f3_; subst f4_; subst f5_))
             refine hK.out _ _ ⟨(blk_cell BK252.out 0).trans rfl, (blk_cell BK252.out 1).trans rfl, (blk_cell BK253.out 0).trans rfl, (blk_cell BK253.out 1).trans rfl⟩ (fun hHeld => ?_)
             clear hK K
             refine norm_ (a' := ?_) ?_ ?_
             rotate_left
             ·show Act.put _ (some 83) _ = _
              simp only [Act.put, List.setIfInBounds_toArray, List.set_cons_zero, List.set_cons_succ, i64_w, i32_w]
              rfl
             refine one_ (i := 4) (N := some 84) #[true, true, true, true, true, false, false, false, true, false, false] rfl rfl (one_of HT_.out (by kernel_rfl)) (by decide) (fun K hK => ?_)
             refine goes_ Try.func28 (by kernel_rfl) rfl #[.agg #[.slice Ao137 t304.length co137, .slice Ao138 t307.length co138], .agg #[.int .i64 t310, .int .i64 t311]] (by rfl) rfl rfl (by (try simp only [List.map_toArray, List.map_cons, List.map_nil]); first | done | rfl | (simp only [List.length_drop, List.length_take]; rfl)) ?_
             with_reducible refine (impl_MakeMove.calls kj80 _ _ t304 _ _ t307 t310 t311 t312 t315 t318 _ ?side1 ?side2 ?side3 ?side4 A123.out).mono ?_
             (case side1 => exact xd ((Kd.R_reads' HO306.out).2.2))
             (case side2 => exact (Kd.R_reads' HO306.out).2.1)
             (case side3 => exact xd ((Kd.R_reads' HO309.out).2.2))
             (case side4 => exact (Kd.R_reads' HO309.out).2.1)
             rintro e w139 ⟨v313, v316, rfl, ho0, ho1, hb⟩
             refine ⟨_, rfl, ?_⟩
             have HO314 := Aside0.mk (Kd.R_lower (Kd.R_new' (Kd.R_new' (Kd.R_new' (Kd.R_new' (Kd.R_new' (Kd.R_new' (Kd.R_new' (Kd.R_new' ho0 (Kd.R_lt (xr HO_271000.out))) (Kd.R_lt (xr HO_271001.out))) (Kd.R_lt (xr HO_278000.out))) (Kd.R_lt (xr HO_278001.out))) (Kd.R_lt (xr HO_288000.out))) (Kd.R_lt (xr HO_288001.out))) (Kd.R_lt (xr HO306.out))) (Kd.R_lt (xr HO309.out))) (below_size (xs HB.out)))
             have HO317 := Aside0.mk (Kd.R_lower (Kd.R_new' (Kd.R_new' (Kd.R_new' (Kd.R_new' (Kd.R_new' (Kd.R_new' (Kd.R_new' (Kd.R_new' ho1 (Kd.R_lt (xr HO_271000.out))) (Kd.R_lt (xr HO_271001.out))) (Kd.R_lt (xr HO_278000.out))) (Kd.R_lt (xr HO_278001.out))) (Kd.R_lt (xr HO_288000.out))) (Kd.R_lt (xr HO_288001.out))) (Kd.R_lt (xr HO306.out))) (Kd.R_lt (xr HO309.out))) (below_size (xs HB.out)))
             replace HO_271000 := xt HO_271000 hb ho0 ho1
             replace HO_271001 := xt HO_271001 hb ho0 ho1
             replace HO_278000 := xt HO_278000 hb ho0 ho1
             replace HO_278001 := xt HO_278001 hb ho0 ho1
             replace HO_288000 := xt HO_288000 hb ho0 ho1
             replace HO_288001 := xt HO_288001 hb ho0 ho1
             replace HO306 := xt HO306 hb ho0 ho1
             replace HO309 := xt HO309 hb ho0 ho1
             replace BK252 := xk BK252 hb
             replace BK253 := xk BK253 hb
             replace BK270 := xk BK270 hb
             replace BK277 := xk BK277 hb
             replace BK287 := xk BK287 hb
             replace BK319 := xk BK319 hb
             replace HB := xp HB hb
             (try clear hb)
             (try clear hb2)
             (try clear hk)
             (try clear hi)
             (try clear ho0)
             (try clear ho1)
             refine hK.out _ _ ⟨(blk_cell BK252.out 0).trans rfl, (blk_cell BK252.out 1).trans rfl, (blk_cell BK253.out 0).trans rfl, (blk_cell BK253.out 1).trans rfl⟩ (fun hHeld => ?_)
             clear hK K
             refine norm_ (a' := ?_) ?_ ?_
             rotate_left
             ·show Act.put _ (some 84) _ = _
              simp only [Act.put, List.setIfInBounds_toArray, List.set_cons_zero, List.set_cons_succ, i64_w, i32_w]
              rfl
             refine pure_ (i := 5) (N := some 79) (v := ?_) (a' := ?_) #[true, true, true, true, true, true, false, false, true, false, false] rfl rfl (any_of HT_.out (by kernel_rfl)) (fun _ _ _ h => h) (Or.inl ⟨by rfl, ?_⟩) ?_ ?_
             rotate_left
             ·intro w'
              go_simp
              with_reducible rfl
             rotate_left
             ·simp only [Act.put, List.setIfInBounds_toArray, List.set_cons_zero, List.set_cons_succ, i64_w, i32_w]
              rfl
             refine pure_ (i := 6) (N := some 85) (v := ?_) (a' := ?_) #[true, true, true, true, true, true, true, false, true, false, false] rfl rfl (any_of HT_.out (by kernel_rfl)) (fun _ _ _ h => h) (Or.inl ⟨by rfl, ?_⟩) ?_ ?_
             rotate_left
             ·intro w'
              go_simp
              with_reducible rfl
             rotate_left
             ·simp only [Act.put, List.setIfInBounds_toArray, List.set_cons_zero, List.set_cons_succ, i64_w, i32_w]
              rfl
             refine pure_ (i := 7) (N := some 86) (v := ?_) (a' := ?_) #[true, true, true, true, true, true, true, true, true, false, false] rfl rfl (any_of HT_.out (by kernel_rfl)) (fun _ _ _ h => h) (Or.inl ⟨by rfl, ?_⟩) ?_ ?_
             rotate_left
             ·intro w'
              go_simp
              with_reducible rfl
             rotate_left
             ·simp only [Act.put, List.setIfInBounds_toArray, List.set_cons_zero, List.set_cons_succ, i64_w, i32_w]
              rfl
             exact norm_ (by simp only [putAll, Act.put, List.setIfInBounds_toArray, List.set_cons_zero, List.set_cons_succ]) (hCont (.slice Ao137 t304.length co137, .slice Ao138 t307.length co138, v313, v316, gb319) _ ⟨hHeld, (xm HO306 (fun _ hk => ⟨hk.1.1.1.1.1.1.1.1, ⟨hk.1.2, ⟨hk.2, ⟨hk.1.1.1.1.1.1.1.2, ⟨hk.1.1.1.1.1.1.2, ⟨hk.1.1.1.1.1.2, ⟨hk.1.1.1.1.2, ⟨hk.1.1.1.2, hk.1.1.2⟩⟩⟩⟩⟩⟩⟩⟩)), (xm HO309 (fun _ hk => ⟨hk.1.1.1.1.1.1.1.1, ⟨hk.1.2, ⟨hk.2, ⟨hk.1.1.1.1.1.1.1.2, ⟨hk.1.1.1.1.1.1.2, ⟨hk.1.1.1.1.1.2, ⟨hk.1.1.1.1.2, ⟨hk.1.1.1.2, hk.1.1.2⟩⟩⟩⟩⟩⟩⟩⟩)), (xm HO314 (fun _ hk => ⟨hk.1.2, ⟨hk.2, ⟨hk.1.1.1.1.1.1.1.1, ⟨hk.1.1.1.1.1.1.1.2, ⟨hk.1.1.1.1.1.1.2, ⟨hk.1.1.1.1.1.2, ⟨hk.1.1.1.1.2, ⟨hk.1.1.1.2, hk.1.1.2⟩⟩⟩⟩⟩⟩⟩⟩)), (xm HO317 (fun _ hk => ⟨hk.1.2, ⟨hk.2, ⟨hk.1.1.1.1.1.1.1.1, ⟨hk.1.1.1.1.1.1.1.2, ⟨hk.1.1.1.1.1.1.2, ⟨hk.1.1.1.1.1.2, ⟨hk.1.1.1.1.2, ⟨hk.1.1.1.2, hk.1.1.2⟩⟩⟩⟩⟩⟩⟩⟩)), (xm HO_271000 (fun _ hk => ⟨hk.1.1.1.2, ⟨hk.1.1.2, ⟨hk.1.2, ⟨hk.2, ⟨hk.1.1.1.1.1, ⟨hk.1.1.1.1.2.1, ⟨hk.1.1.1.1.2.2.1, ⟨hk.1.1.1.1.2.2.2.1, hk.1.1.1.1.2.2.2.2⟩⟩⟩⟩⟩⟩⟩⟩)), (xm HO_271001 (fun _ hk => ⟨hk.1.1.1.2, ⟨hk.1.1.2, ⟨hk.1.2, ⟨hk.2, ⟨hk.1.1.1.1.1, ⟨hk.1.1.1.1.2.1, ⟨hk.1.1.1.1.2.2.1, ⟨hk.1.1.1.1.2.2.2.1, hk.1.1.1.1.2.2.2.2⟩⟩⟩⟩⟩⟩⟩⟩)), (xm HO_278000 (fun _ hk => ⟨hk.1.1.1.2, ⟨hk.1.1.2, ⟨hk.1.2, ⟨hk.2, ⟨hk.1.1.1.1.1, ⟨hk.1.1.1.1.2.1, ⟨hk.1.1.1.1.2.2.1, ⟨hk.1.1.1.1.2.2.2.1, hk.1.1.1.1.2.2.2.2⟩⟩⟩⟩⟩⟩⟩⟩)), (xm HO_278001 (fun _ hk => ⟨hk.1.1.1.2, ⟨hk.1.1.2, ⟨hk.1.2, ⟨hk.2, ⟨hk.1.1.1.1.1, ⟨hk.1.1.1.1.2.1, ⟨hk.1.1.1.1.2.2.1, ⟨hk.1.1.1.1.2.2.2.1, hk.1.1.1.1.2.2.2.2⟩⟩⟩⟩⟩⟩⟩⟩)), (xm HO_288000 (fun _ hk => ⟨hk.1.1.1.2, ⟨hk.1.1.2, ⟨hk.1.2, ⟨hk.2, ⟨hk.1.1.1.1.1, ⟨hk.1.1.1.1.2.1, ⟨hk.1.1.1.1.2.2.1, ⟨hk.1.1.1.1.2.2.2.1, hk.1.1.1.1.2.2.2.2⟩⟩⟩⟩⟩⟩⟩⟩)), (xm HO_288001 (fun _ hk => ⟨hk.1.1.1.2, ⟨hk.1.1.2, ⟨hk.1.2, ⟨hk.2, ⟨hk.1.1.1.1.1, ⟨hk.1.1.1.1.2.1, ⟨hk.1.1.1.1.2.2.1, ⟨hk.1.1.1.1.2.2.2.1, hk.1.1.1.1.2.2.2.2⟩⟩⟩⟩⟩⟩⟩⟩)), (xb BK252.out), (xb BK253.out), (xb BK270.out), (xb BK277.out), (xb BK287.out), (xb BK319.out), GW319.out, GE319.out, NB252_319.out, NB319_252.out, NB253_319.out, NB319_253.out, NB270_319.out, NB319_270.out, NB277_319.out, NB319_277.out, NB287_319.out, NB319_287.out, (xs HB.out)⟩)
           rintro ⟨v305, v308, v313, v316, gb319⟩ w140 ⟨hS_, h0_, h1_, h2_, h3_, h4_, h5_, h6_, h7_, h8_, h9_, h10_, h11_, h12_, h13_, h14_, h15_, h16_, h17_, h18_, h19_, h20_, h21_, h22_, h23_, h24_, h25_, h26_, h27_, h28_⟩
           have n0_ : Aside0 (Kd.R (Kd.int .i64) 3 w140 w.heap.size (fun k_ => nV k_ v308 ∧ nV k_ v313 ∧ nV k_ v316 ∧ nS k_ Ao30 t263.length co30 ∧ nS k_ Ao32 t266.length co32 ∧ nS k_ Ao38 t297.length co38 ∧ nS k_ Ao43 t298.length co43 ∧ nS k_ Ao50 t280.length co50 ∧ nS k_ Ao52 t283.length co52) v305 t304) := ⟨h0_⟩
           have n1_ : Aside0 (Kd.R (Kd.int .i64) 3 w140 w.heap.size (fun k_ => nV k_ v305 ∧ nV k_ v313 ∧ nV k_ v316 ∧ nS k_ Ao30 t263.length co30 ∧ nS k_ Ao32 t266.length co32 ∧ nS k_ Ao38 t297.length co38 ∧ nS k_ Ao43 t298.length co43 ∧ nS k_ Ao50 t280.length co50 ∧ nS k_ Ao52 t283.length co52) v308 t307) := ⟨h1_⟩
           have n2_ : Aside0 (Kd.R (Kd.int .i64) 3 w140 w.heap.size (fun k_ => nV k_ v305 ∧ nV k_ v308 ∧ nV k_ v316 ∧ nS k_ Ao30 t263.length co30 ∧ nS k_ Ao32 t266.length co32 ∧ nS k_ Ao38 t297.length co38 ∧ nS k_ Ao43 t298.length co43 ∧ nS k_ Ao50 t280.length co50 ∧ nS k_ Ao52 t283.length co52) v313 t312) := ⟨h2_⟩
           have n3_ : Aside0 (Kd.R (Kd.int .i64) 3 w140 w.heap.size (fun k_ => nV k_ v305 ∧ nV k_ v308 ∧ nV k_ v313 ∧ nS k_ Ao30 t263.length co30 ∧ nS k_ Ao32 t266.length co32 ∧ nS k_ Ao38 t297.length co38 ∧ nS k_ Ao43 t298.length co43 ∧ nS k_ Ao50 t280.length co50 ∧ nS k_ Ao52 t283.length co52) v316 t315) := ⟨h3_⟩
           have n4_ : Aside0 (Kd.R (Kd.int .i64) 3 w140 w.heap.size (fun k_ => nV k_ v305 ∧ nV k_ v308 ∧ nV k_ v313 ∧ nV k_ v316 ∧ nS k_ Ao32 t266.length co32 ∧ nS k_ Ao38 t297.length co38 ∧ nS k_ Ao43 t298.length co43 ∧ nS k_ Ao50 t280.length co50 ∧ nS k_ Ao52 t283.length co52) (.slice Ao30 t263.length co30) t263) := ⟨h4_⟩
           have n5_ : Aside0 (Kd.R (Kd.int .i64) 3 w140 w.heap.size (fun k_ => nV k_ v305 ∧ nV k_ v308 ∧ nV k_ v313 ∧ nV k_ v316 ∧ nS k_ Ao30 t263.length co30 ∧ nS k_ Ao38 t297.length co38 ∧ nS k_ Ao43 t298.length co43 ∧ nS k_ Ao50 t280.length co50 ∧ nS k_ Ao52 t283.length co52) (.slice Ao32 t266.length co32) t266) := ⟨h5_⟩
           have n6_ : Aside0 (Kd.R (Kd.int .i64) 3 w140 w.heap.size (fun k_ => nV k_ v305 ∧ nV k_ v308 ∧ nV k_ v313 ∧ nV k_ v316 ∧ nS k_ Ao30 t263.length co30 ∧ nS k_ Ao32 t266.length co32 ∧ nS k_ Ao43 t298.length co43 ∧ nS k_ Ao50 t280.length co50 ∧ nS k_ Ao52 t283.length co52) (.slice Ao38 t297.length co38) t297) := ⟨h6_⟩
           have n7_ : Aside0 (Kd.R (Kd.int .i64) 3 w140 w.heap.size (fun k_ => nV k_ v305 ∧ nV k_ v308 ∧ nV k_ v313 ∧ nV k_ v316 ∧ nS k_ Ao30 t263.length co30 ∧ nS k_ Ao32 t266.length co32 ∧ nS k_ Ao38 t297.length co38 ∧ nS k_ Ao50 t280.length co50 ∧ nS k_ Ao52 t283.length co52) (.slice Ao43 t298.length co43) t298) := ⟨h7_⟩
           have n8_ : Aside0 (Kd.R (Kd.int .i64) 3 w140 w.heap.size (fun k_ => nV k_ v305 ∧ nV k_ v308 ∧ nV k_ v313 ∧ nV k_ v316 ∧ nS k_ Ao30 t263.length co30 ∧ nS k_ Ao32 t266.length co32 ∧ nS k_ Ao38 t297.length co38 ∧ nS k_ Ao43 t298.length co43 ∧ nS k_ Ao52 t283.length co52) (.slice Ao50 t280.length co50) t301) := ⟨h8_⟩
           have n9_ : Aside0 (Kd.R (Kd.int .i64) 3 w140 w.heap.size (fun k_ => nV k_ v305 ∧ nV k_ v308 ∧ nV k_ v313 ∧ nV k_ v316 ∧ nS k_ Ao30 t263.length co30 ∧ nS k_ Ao32 t266.length co32 ∧ nS k_ Ao38 t297.length co38 ∧ nS k_ Ao43 t298.length co43 ∧ nS k_ Ao50 t280.length co50) (.slice Ao52 t283.length co52) t302) := ⟨h9_⟩
           have n10_ : Aside0 (w140.heap[gb252]? = some (.cells #[.slice A0_0 l0_0.length c0_0, .slice A0_1 l0_1.length c0_1] 24 (0, 0))) := ⟨h10_⟩
           have n11_ : Aside0 (w140.heap[gb253]? = some (.cells #[.int .i64 a1_0, .int .i64 a1_1] 39 (0, 0))) := ⟨h11_⟩
           have n12_ : Aside0 (w140.heap[gb270]? = some (.cells #[.slice Ao30 t263.length co30, .slice Ao32 t266.length co32] 26 (0, 0))) := ⟨h12_⟩
           have n13_ : Aside0 (w140.heap[gb277]? = some (.cells #[.slice Ao38 t297.length co38, .slice Ao43 t298.length co43] 26 (0, 0))) := ⟨h13_⟩
           have n14_ : Aside0 (w140.heap[gb287]? = some (.cells #[.slice Ao50 t280.length co50, .slice Ao52 t283.length co52] 26 (0, 0))) := ⟨h14_⟩
           have n15_ : Aside0 (w140.heap[gb319]? = some (.cells #[.slice none 0 0, .slice none 0 0] 26 (0, 0))) := ⟨h15_⟩
           have n16_ : Aside0 (w.heap.size ≤ gb319) := ⟨h16_⟩
           have n17_ : Aside0 (w.heap.size ≤ gb319) := ⟨h17_⟩
           have n18_ : Aside0 (gb252 ≠ gb319) := ⟨h18_⟩
           have n19_ : Aside0 (gb319 ≠ gb252) := ⟨h19_⟩
           have n20_ : Aside0 (gb253 ≠ gb319) := ⟨h20_⟩
           have n21_ : Aside0 (gb319 ≠ gb253) := ⟨h21_⟩
           have n22_ : Aside0 (gb270 ≠ gb319) := ⟨h22_⟩
           have n23_ : Aside0 (gb319 ≠ gb270) := ⟨h23_⟩
           have n24_ : Aside0 (gb277 ≠ gb319) := ⟨h24_⟩
           have n25_ : Aside0 (gb319 ≠ gb277) := ⟨h25_⟩
           have n26_ : Aside0 (gb287 ≠ gb319) := ⟨h26_⟩
           have n27_ : Aside0 (gb319 ≠ gb287) := ⟨h27_⟩
           have n28_ : Aside0 (Below w.heap.size w w140) := ⟨h28_⟩
           clear HO_271000
           clear HO_271001
           clear HO_278000
           clear HO_278001
           clear HO_288000
           clear HO_288001
           clear BK252
           clear BK253
           clear BK270
           clear BK277
           clear BK287
           clear HB
           clear h0_ h1_ h2_ h3_ h4_ h5_ h6_ h7_ h8_ h9_ h10_ h11_ h12_ h13_ h14_ h15_ h16_ h17_ h18_ h19_ h20_ h21_ h22_ h23_ h24_ h25_ h26_ h27_ h28_
           have HO306 := n0_
           have HO309 := n1_
           have HO314 := n2_
           have HO317 := n3_
           have HO_271000 := n4_
           have HO_271001 := n5_
           have HO_278000 := n6_
           have HO_278001 := n7_
           have HO_288000 := n8_
           have HO_288001 := n9_
           have BK252 := n10_
           have BK253 := n11_
           have BK270 := n12_
           have BK277 := n13_
           have BK287 := n14_
           have BK319 := n15_
           have GW319 := n16_
           have GE319 := n17_
           have NB252_319 := n18_
           have NB319_252 := n19_
           have NB253_319 := n20_
           have NB319_253 := n21_
           have NB270_319 := n22_
           have NB319_270 := n23_
           have NB277_319 := n24_
           have NB319_277 := n25_
           have NB287_319 := n26_
           have NB319_287 := n27_
           have HB := n28_
           clear n0_ n1_ n2_ n3_ n4_ n5_ n6_ n7_ n8_ n9_ n10_ n11_ n12_ n13_ n14_ n15_ n16_ n17_ n18_ n19_ n20_ n21_ n22_ n23_ n24_ n25_ n26_ n27_ n28_
           have hHeld : w140.cell? ⟨gb252, 0, none⟩ = some (.slice A0_0 l0_0.length c0_0) ∧ w140.cell? ⟨gb252, 1, none⟩ = some (.slice A0_1 l0_1.length c0_1) ∧ w140.cell? ⟨gb253, 0, none⟩ = some (.int .i64 a1_0) ∧ w140.cell? ⟨gb253, 1, none⟩ = some (.int .i64 a1_1) := hS_
           obtain ⟨Ao141, co141, eo141⟩ := Kd.R_slice HO314.out
           (first | subst eo141 | (injection eo141 with f1_ f2_ f3_; have f4_ := f1_.symm; have f5_ := f3_.symm; clear f1_ f2_ f3_; subst f4_; subst f5_))
           obtain ⟨Ao143, co143, eo143⟩ := Kd.R_slice HO317.out
           (first | subst eo143 | (injection eo143 with f1_ f2_ f3_; have f4_ := f1_.symm; have f5_ := f3_.symm; clear f1_ f2_ f3_; subst f4_; subst f5_))
           refine norm_ (a' := ?_) ?_ ?_
           rotate_left
           ·simp only [putAll, Act.put, List.setIfInBounds_toArray, List.set_cons_zero, List.set_cons_succ]
            rfl
           refine one_ (i := 9) (N := none) #[true, true, true, true, true, true, true, true, true, true, false] rfl rfl (one_of HT_.out (by kernel_rfl)) (by decide) (fun K hK => ?_)
           have hs142 : w140.cell? ⟨gb319, 0, none⟩ = some (.slice none 0 0) := (blk_cell BK319.out 0).trans rfl
           have hfs142 := blk_frozen BK319.out 0
           have hns142_0 := NB252_319.out
           have hns142_1 := NB253_319.out
           have hns142_2 := NB270_319.out
           have hns142_3 := NB277_319.out
           have hns142_4 := NB287_319.out
           have hms142_0 := NB319_252.out
           have hms142_1 := NB319_253.out
           have hms142_2 := NB319_270.out
           have hms142_3 := NB319_277.out
           have hms142_4 := NB319_287.out
           have hs144 : w140.cell? ⟨gb319, 1, none⟩ = some (.slice none 0 0) := (blk_cell BK319.out 1).trans rfl
           have hfs144 := blk_frozen BK319.out 1
           have hns144_0 := NB252_319.out
           have hns144_1 := NB253_319.out
           have hns144_2 := NB270_319.out
           have hns144_3 := NB277_319.out
           have hns144_4 := NB287_319.out
           have hms144_0 := NB319_252.out
           have hms144_1 := NB319_253.out
           have hms144_2 := NB319_270.out
           have hms144_3 := NB319_277.out
           have hms144_4 := NB319_287.out
           refine skip_ (w1 := ?_) (by rfl) rfl ?_ ?_
           rotate_left
           ·go_simp
            rfl
           refine hK.out _ _ ⟨((cell_far (p := ⟨gb319, _, none⟩) NB252_319.out _).trans (((cell_far (p := ⟨gb319, _, none⟩) NB252_319.out _).trans (hHeld.1)))), ((cell_far (p := ⟨gb319, _, none⟩) NB252_319.out _).trans (((cell_far (p := ⟨gb319, _, none⟩) NB252_319.out _).trans (hHeld.2.1)))), ((cell_far (p := ⟨gb319, _, none⟩) NB253_319.out _).trans (((cell_far (p := ⟨gb319, _, none⟩) NB253_319.out _).trans (hHeld.2.2.1)))), ((cell_far (p := ⟨gb319, _, none⟩) NB253_319.out _).trans (((cell_far (p := ⟨gb319, _, none⟩) NB253_319.out _).trans (hHeld.2.2.2))))⟩ (fun hHeld => ?_)
           clear hK K
           refine pure_ (i := 10) (N := some 15) (v := ?_) (a' := ?_) #[true, true, true, true, true, true, true, true, true, true, true] rfl rfl (any_of HT_.out (by kernel_rfl)) (fun _ _ _ h => h) (Or.inl ⟨by rfl, ?_⟩) ?_ ?_
           rotate_left
           ·intro w'
            go_simp
            with_reducible rfl
           rotate_left
           ·simp only [Act.put, List.setIfInBounds_toArray, List.set_cons_zero, List.set_cons_succ, i64_w, i32_w]
            rfl
           refine done_ (done_of HT_.out (by kernel_rfl)) ?_
           go_upto_region 25 with (fail)
           go_cut [95] (fun v95 wc => ∃ (kq : Nat) (x95_123 : Bool), v95 = .bool x95_123 ∧ Aside0 (laws_FnExactMakeMove.j2 kq t300 x95_123 t301 t302 = some true) ∧ Aside0 (kq ≤ kj80) ∧ Aside0 (Kd.R (Kd.int .i64) 3 wc w.heap.size (fun k_ => nS k_ Ao32 t266.length co32 ∧ nS k_ Ao38 t297.length co38 ∧ nS k_ Ao43 t298.length co43 ∧ nS k_ Ao50 t280.length co50 ∧ nS k_ Ao52 t283.length co52 ∧ nS k_ Ao141 t312.length co141 ∧ nS k_ Ao143 t315.length co143) (.slice Ao30 t263.length co30) t263) ∧ Aside0 (Kd.R (Kd.int .i64) 3 wc w.heap.size (fun k_ => nS k_ Ao30 t263.length co30 ∧ nS k_ Ao38 t297.length co38 ∧ nS k_ Ao43 t298.length co43 ∧ nS k_ Ao50 t280.length co50 ∧ nS k_ Ao52 t283.length co52 ∧ nS k_ Ao141 t312.length co141 ∧ nS k_ Ao143 t315.length co143) (.slice Ao32 t266.length co32) t266) ∧ Aside0 (Kd.R (Kd.int .i64) 3 wc w.heap.size (fun k_ => nS k_ Ao30 t263.length co30 ∧ nS k_ Ao32 t266.length co32 ∧ nS k_ Ao43 t298.length co43 ∧ nS k_ Ao50 t280.length co50 ∧ nS k_ Ao52 t283.length co52 ∧ nS k_ Ao141 t312.length co141 ∧ nS k_ Ao143 t315.length co143) (.slice Ao38 t297.length co38) t297) ∧ Aside0 (Kd.R (Kd.int .i64) 3 wc w.heap.size (fun k_ => nS k_ Ao30 t263.length co30 ∧ nS k_ Ao32 t266.length co32 ∧ nS k_ Ao38 t297.length co38 ∧ nS k_ Ao50 t280.length co50 ∧ nS k_ Ao52 t283.length co52 ∧ nS k_ Ao141 t312.length co141 ∧ nS k_ Ao143 t315.length co143) (.slice Ao43 t298.length co43) t298) ∧ Aside0 (Kd.R (Kd.int .i64) 3 wc w.heap.size (fun k_ => nS k_ Ao30 t263.length co30 ∧ nS k_ Ao32 t266.length co32 ∧ nS k_ Ao38 t297.length co38 ∧ nS k_ Ao43 t298.length co43 ∧ nS k_ Ao52 t283.length co52 ∧ nS k_ Ao141 t312.length co141 ∧ nS k_ Ao143 t315.length co143) (.slice Ao50 t280.length co50) t301) ∧ Aside0 (Kd.R (Kd.int .i64) 3 wc w.heap.size (fun k_ => nS k_ Ao30 t263.length co30 ∧ nS k_ Ao32 t266.length co32 ∧ nS k_ Ao38 t297.length co38 ∧ nS k_ Ao43 t298.length co43 ∧ nS k_ Ao50 t280.length co50 ∧ nS k_ Ao141 t312.length co141 ∧ nS k_ Ao143 t315.length co143) (.slice Ao52 t283.length co52) t302) ∧ Aside0 (Kd.R (Kd.int .i64) 3 wc w.heap.size (fun k_ => nS k_ Ao30 t263.length co30 ∧ nS k_ Ao32 t266.length co32 ∧ nS k_ Ao38 t297.length co38 ∧ nS k_ Ao43 t298.length co43 ∧ nS k_ Ao50 t280.length co50 ∧ nS k_ Ao52 t283.length co52 ∧ nS k_ Ao143 t315.length co143) (.slice Ao141 t312.length co141) t312) ∧ Aside0 (Kd.R (Kd.int .i64) 3 wc w.heap.size (fun k_ => nS k_ Ao30 t263.length co30 ∧ nS k_ Ao32 t266.length co32 ∧ nS k_ Ao38 t297.length co38 ∧ nS k_ Ao43 t298.length co43 ∧ nS k_ Ao50 t280.length co50 ∧ nS k_ Ao52 t283.length co52 ∧ nS k_ Ao141 t312.length co141) (.slice Ao143 t315.length co143) t315) ∧ Aside0 (wc.heap[gb252]? = some (.cells #[(.slice A0_0 l0_0.length c0_0), (.slice A0_1 l0_1.length c0_1)] 24 (0, 0))) ∧ Aside0 (wc.heap[gb253]? = some (.cells #[.int .i64 a1_0, .int .i64 a1_1] 39 (0, 0))) ∧ Aside0 (wc.heap[gb270]? = some (.cells #[(.slice Ao30 t263.length co30), (.slice Ao32 t266.length co32)] 26 (0, 0))) ∧ Aside0 (wc.heap[gb277]? = some (.cells #[(.slice Ao38 t297.length co38), (.slice Ao43 t298.length co43)] 26 (0, 0))) ∧ Aside0 (wc.heap[gb287]? = some (.cells #[(.slice Ao50 t280.length co50), (.slice Ao52 t283.length co52)] 26 (0, 0))) ∧ Aside0 (wc.heap[gb319]? = some (.cells #[(.slice Ao141 t312.length co141), (.slice Ao143 t315.length co143)] 26 (0, 0))) ∧ Aside0 (Below w.heap.size w wc))
           case first =>
            have H := HC124.out
            clear HC124
            replace H := Option.bind_eq_some_iff.mp H
            obtain ⟨t320, A1450, H⟩ := H
            replace H : (if t320 = true then (laws_FnExactMakeMove.j2 kj80 t300 (t318 != t269) t301 t302) else (laws_FnExactMakeMove.j2 kj80 t300 true t301 t302)) = some true := H
            have A145 := Aside0.mk A1450
            clear A1450
            by_cases c146 : t320 = true
            ·subst c146
             have H1 : (laws_FnExactMakeMove.j2 kj80 t300 (t318 != t269) t301 t302) = some true := by first | (rw [if_pos rfl] at H; exact H) | rfl
             clear H
             have H := H1
             clear H1
             have H' := Aside0.mk H
             clear H
             have hnb147 := NB319_252.out
             have hnc147 := NB252_319.out
             have hnb148 := NB319_253.out
             have hnc148 := NB253_319.out
             have hnb149 := NB319_270.out
             have hnc149 := NB270_319.out
             have hnb150 := NB319_277.out
             have hnc150 := NB277_319.out
             have hnb151 := NB319_287.out
             have hnc151 := NB287_319.out
             have hcz152_0 : w140.cell? ⟨gb319, 0, none⟩ = some (.slice none 0 0) := (blk_cell BK319.out 0).trans rfl
             have hcz152_1 : w140.cell? ⟨gb319, 1, none⟩ = some (.slice none 0 0) := (blk_cell BK319.out 1).trans rfl
             have hfz152_0 := blk_frozen BK319.out 0
             have hfz152_1 := blk_frozen BK319.out 1
             have hnb153 := NB270_252.out
             have hnc153 := NB252_270.out
             have hnb154 := NB270_253.out
             have hnc154 := NB253_270.out
             have hnb155 := NB270_277.out
             have hnc155 := NB277_270.out
             have hnb156 := NB270_287.out
             have hnc156 := NB287_270.out
             have hcz157_0 : w140.cell? ⟨gb270, 0, none⟩ = some (.slice Ao30 t263.length co30) := (blk_cell BK270.out 0).trans rfl
             have hcz157_1 : w140.cell? ⟨gb270, 1, none⟩ = some (.slice Ao32 t266.length co32) := (blk_cell BK270.out 1).trans rfl
             have hfz157_0 := blk_frozen BK270.out 0
             have hfz157_1 := blk_frozen BK270.out 1
             go_wp2_with (first | ((with_reducible refine gate_callee (f := 19) rfl ?_); refine goesL_ (some 89) rfl rfl Try.func19 (by kernel_rfl) rfl #[.agg #[.slice Ao141 t312.length co141, .slice Ao143 t315.length co143], .agg #[.slice Ao30 t263.length co30, .slice Ao32 t266.length co32]] rfl (by (try simp only [List.map_toArray, List.map_cons, List.map_nil]); first | done | rfl | (simp only [List.length_drop, List.length_take]; rfl)) ?_; (with_reducible refine (laws_eqVessels.calls kj80 _ _ t312 _ _ t315 _ _ t263 _ _ t266 true _ ?side1 ?side2 ?side3 ?side4 ?side5 ?side6 ?side7 ?side8 A145.out).mono ?_); (case side1 => refine (Kd.R_reads' (e := 3) (base := w.heap.size) (ok := fun k_ => (nV k_ v305 ∧ (nV k_ v308 ∧ (nS k_ Ao143 t315.length co143 ∧ (nS k_ Ao30 t263.length co30 ∧ (nS k_ Ao32 t266.length co32 ∧ (nS k_ Ao38 t297.length co38 ∧ (nS k_ Ao43 t298.length co43 ∧ (nS k_ Ao50 t280.length co50 ∧ nS k_ Ao52 t283.length co52))))))))) (n := t312.length) (c := co141) ?_).2.2; exact (by (with_reducible repeat (first | apply Kd.R_alloc | apply Kd.R_drewN | apply Kd.R_drew)); exact (Kd.R_mono (Kd.R_far (p := ⟨gb319, 1, none⟩) (Kd.R_far (p := ⟨gb319, 0, none⟩) (Kd.R_types HO314.out BK319.out (by decide)) (fun _ hk => hk.2) (.slice Ao141 t312.length co141)) (fun _ hk => hk.2) (.slice Ao143 t315.length co143)) (fun _ h_ => h_.1)))); (case side2 => exact (Kd.R_reads' HO314.out).2.1); (case side3 => refine (Kd.R_reads' (e := 3) (base := w.heap.size) (ok := fun k_ => (nV k_ v305 ∧ (nV k_ v308 ∧ (nS k_ Ao141 t312.length co141 ∧ (nS k_ Ao30 t263.length co30 ∧ (nS k_ Ao32 t266.length co32 ∧ (nS k_ Ao38 t297.length co38 ∧ (nS k_ Ao43 t298.length co43 ∧ (nS k_ Ao50 t280.length co50 ∧ nS k_ Ao52 t283.length co52))))))))) (n := t315.length) (c := co143) ?_).2.2; exact (by (with_reducible repeat (first | apply Kd.R_alloc | apply Kd.R_drewN | apply Kd.R_drew)); exact (Kd.R_mono (Kd.R_far (p := ⟨gb319, 1, none⟩) (Kd.R_far (p := ⟨gb319, 0, none⟩) (Kd.R_types HO317.out BK319.out (by decide)) (fun _ hk => hk.2) (.slice Ao141 t312.length co141)) (fun _ hk => hk.2) (.slice Ao143 t315.length co143)) (fun _ h_ => h_.1)))); (case side4 => exact (Kd.R_reads' HO317.out).2.1); (case side5 => refine (Kd.R_reads' (e := 3) (base := w.heap.size) (ok := fun k_ => (nV k_ v305 ∧ (nV k_ v308 ∧ (nS k_ Ao141 t312.length co141 ∧ (nS k_ Ao143 t315.length co143 ∧ (nS k_ Ao32 t266.length co32 ∧ (nS k_ Ao38 t297.length co38 ∧ (nS k_ Ao43 t298.length co43 ∧ (nS k_ Ao50 t280.length co50 ∧ nS k_ Ao52 t283.length co52))))))))) (n := t263.length) (c := co30) ?_).2.2; exact (by (with_reducible repeat (first | apply Kd.R_alloc | apply Kd.R_drewN | apply Kd.R_drew)); exact (Kd.R_mono (Kd.R_far (p := ⟨gb319, 1, none⟩) (Kd.R_far (p := ⟨gb319, 0, none⟩) (Kd.R_types HO_271000.out BK319.out (by decide)) (fun _ hk => hk.2) (.slice Ao141 t312.length co141)) (fun _ hk => hk.2) (.slice Ao143 t315.length co143)) (fun _ h_ => h_.1)))); (case side6 => exact (Kd.R_reads' HO_271000.out).2.1); (case side7 => refine (Kd.R_reads' (e := 3) (base := w.heap.size) (ok := fun k_ => (nV k_ v305 ∧ (nV k_ v308 ∧ (nS k_ Ao141 t312.length co141 ∧ (nS k_ Ao143 t315.length co143 ∧ (nS k_ Ao30 t263.length co30 ∧ (nS k_ Ao38 t297.length co38 ∧ (nS k_ Ao43 t298.length co43 ∧ (nS k_ Ao50 t280.length co50 ∧ nS k_ Ao52 t283.length co52))))))))) (n := t266.length) (c := co32) ?_).2.2; exact (by (with_reducible repeat (first | apply Kd.R_alloc | apply Kd.R_drewN | apply Kd.R_drew)); exact (Kd.R_mono (Kd.R_far (p := ⟨gb319, 1, none⟩) (Kd.R_far (p := ⟨gb319, 0, none⟩) (Kd.R_types HO_271001.out BK319.out (by decide)) (fun _ hk => hk.2) (.slice Ao141 t312.length co141)) (fun _ hk => hk.2) (.slice Ao143 t315.length co143)) (fun _ h_ => h_.1)))); (case side8 => exact (Kd.R_reads' HO_271001.out).2.1); rintro e w158 ⟨rfl, hb⟩; refine ⟨_, rfl, ?_⟩; replace HO_271000 := Aside0.mk (Kd.R_below (by (with_reducible repeat (first | apply Kd.R_alloc | apply Kd.R_drewN | apply Kd.R_drew)); exact (Kd.R_mono (Kd.R_far (p := ⟨gb319, 1, none⟩) (Kd.R_far (p := ⟨gb319, 0, none⟩) (Kd.R_types HO_271000.out BK319.out (by decide)) (fun _ hk => hk.2) (.slice Ao141 t312.length co141)) (fun _ hk => hk.2) (.slice Ao143 t315.length co143)) (fun _ h_ => h_.1))) hb); replace HO_271001 := Aside0.mk (Kd.R_below (by (with_reducible repeat (first | apply Kd.R_alloc | apply Kd.R_drewN | apply Kd.R_drew)); exact (Kd.R_mono (Kd.R_far (p := ⟨gb319, 1, none⟩) (Kd.R_far (p := ⟨gb319, 0, none⟩) (Kd.R_types HO_271001.out BK319.out (by decide)) (fun _ hk => hk.2) (.slice Ao141 t312.length co141)) (fun _ hk => hk.2) (.slice Ao143 t315.length co143)) (fun _ h_ => h_.1))) hb); replace HO_278000 := Aside0.mk (Kd.R_below (by (with_reducible repeat (first | apply Kd.R_alloc | apply Kd.R_drewN | apply Kd.R_drew)); exact (Kd.R_mono (Kd.R_far (p := ⟨gb319, 1, none⟩) (Kd.R_far (p := ⟨gb319, 0, none⟩) (Kd.R_types HO_278000.out BK319.out (by decide)) (fun _ hk => hk.2) (.slice Ao141 t312.length co141)) (fun _ hk => hk.2) (.slice Ao143 t315.length co143)) (fun _ h_ => h_.1))) hb); replace HO_278001 := Aside0.mk (Kd.R_below (by (with_reducible repeat (first | apply Kd.R_alloc | apply Kd.R_drewN | apply Kd.R_drew)); exact (Kd.R_mono (Kd.R_far (p := ⟨gb319, 1, none⟩) (Kd.R_far (p := ⟨gb319, 0, none⟩) (Kd.R_types HO_278001.out BK319.out (by decide)) (fun _ hk => hk.2) (.slice Ao141 t312.length co141)) (fun _ hk => hk.2) (.slice Ao143 t315.length co143)) (fun _ h_ => h_.1))) hb); replace HO_288000 := Aside0.mk (Kd.R_below (by (with_reducible repeat (first | apply Kd.R_alloc | apply Kd.R_drewN | apply Kd.R_drew)); exact (Kd.R_mono (Kd.R_far (p := ⟨gb319, 1, none⟩) (Kd.R_far (p := ⟨gb319, 0, none⟩) (Kd.R_types HO_288000.out BK319.out (by decide)) (fun _ hk => hk.2) (.slice Ao141 t312.length co141)) (fun _ hk => hk.2) (.slice Ao143 t315.length co143)) (fun _ h_ => h_.1))) hb); replace HO_288001 := Aside0.mk (Kd.R_below (by (with_reducible repeat (first | apply Kd.R_alloc | apply Kd.R_drewN | apply Kd.R_drew)); exact (Kd.R_mono (Kd.R_far (p := ⟨gb319, 1, none⟩) (Kd.R_far (p := ⟨gb319, 0, none⟩) (Kd.R_types HO_288001.out BK319.out (by decide)) (fun _ hk => hk.2) (.slice Ao141 t312.length co141)) (fun _ hk => hk.2) (.slice Ao143 t315.length co143)) (fun _ h_ => h_.1))) hb); replace HO306 := Aside0.mk (Kd.R_below (by (with_reducible repeat (first | apply Kd.R_alloc | apply Kd.R_drewN | apply Kd.R_drew)); exact (Kd.R_mono (Kd.R_far (p := ⟨gb319, 1, none⟩) (Kd.R_far (p := ⟨gb319, 0, none⟩) (Kd.R_types HO306.out BK319.out (by decide)) (fun _ hk => hk.2) (.slice Ao141 t312.length co141)) (fun _ hk => hk.2) (.slice Ao143 t315.length co143)) (fun _ h_ => h_.1))) hb); replace HO309 := Aside0.mk (Kd.R_below (by (with_reducible repeat (first | apply Kd.R_alloc | apply Kd.R_drewN | apply Kd.R_drew)); exact (Kd.R_mono (Kd.R_far (p := ⟨gb319, 1, none⟩) (Kd.R_far (p := ⟨gb319, 0, none⟩) (Kd.R_types HO309.out BK319.out (by decide)) (fun _ hk => hk.2) (.slice Ao141 t312.length co141)) (fun _ hk => hk.2) (.slice Ao143 t315.length co143)) (fun _ h_ => h_.1))) hb); replace HO314 := Aside0.mk (Kd.R_below (by (with_reducible repeat (first | apply Kd.R_alloc | apply Kd.R_drewN | apply Kd.R_drew)); exact (Kd.R_mono (Kd.R_far (p := ⟨gb319, 1, none⟩) (Kd.R_far (p := ⟨gb319, 0, none⟩) (Kd.R_types HO314.out BK319.out (by decide)) (fun _ hk => hk.2) (.slice Ao141 t312.length co141)) (fun _ hk => hk.2) (.slice Ao143 t315.length co143)) (fun _ h_ => h_.1))) hb); replace HO317 := Aside0.mk (Kd.R_below (by (with_reducible repeat (first | apply Kd.R_alloc | apply Kd.R_drewN | apply Kd.R_drew)); exact (Kd.R_mono (Kd.R_far (p := ⟨gb319, 1, none⟩) (Kd.R_far (p := ⟨gb319, 0, none⟩) (Kd.R_types HO317.out BK319.out (by decide)) (fun _ hk => hk.2) (.slice Ao141 t312.length co141)) (fun _ hk => hk.2) (.slice Ao143 t315.length co143)) (fun _ h_ => h_.1))) hb); replace BK252 := Aside0.mk (blk_below (g := gb252) (o := .cells #[.slice A0_0 l0_0.length c0_0, .slice A0_1 l0_1.length c0_1] 24 (0, 0)) (xff NB252_319.out NB252_319.out BK252.out) hb); replace BK253 := Aside0.mk (blk_below (g := gb253) (o := .cells #[.int .i64 a1_0, .int .i64 a1_1] 39 (0, 0)) (xff NB253_319.out NB253_319.out BK253.out) hb); replace BK270 := Aside0.mk (blk_below (g := gb270) (o := .cells #[.slice Ao30 t263.length co30, .slice Ao32 t266.length co32] 26 (0, 0)) (xff NB270_319.out NB270_319.out BK270.out) hb); replace BK277 := Aside0.mk (blk_below (g := gb277) (o := .cells #[.slice Ao38 t297.length co38, .slice Ao43 t298.length co43] 26 (0, 0)) (xff NB277_319.out NB277_319.out BK277.out) hb); replace BK287 := Aside0.mk (blk_below (g := gb287) (o := .cells #[.slice Ao50 t280.length co50, .slice Ao52 t283.length co52] 26 (0, 0)) (xff NB287_319.out NB287_319.out BK287.out) hb); replace BK319 := Aside0.mk (blk_below (g := gb319) (o := .cells #[.slice Ao141 t312.length co141, .slice Ao143 t315.length co143] 26 (0, 0)) (by (with_reducible repeat (first | refine blk_drewN ?_ _ | refine blk_drew ?_ | refine blk_alloc ?_ _)); refine blk_put (cs := #[.slice Ao141 t312.length co141, .slice none 0 0]) ?_ 1 _ rfl; (with_reducible repeat (first | refine blk_drewN ?_ _ | refine blk_drew ?_ | refine blk_alloc ?_ _)); refine blk_put (cs := #[.slice none 0 0, .slice none 0 0]) ?_ 0 _ rfl; (with_reducible repeat (first | refine blk_drewN ?_ _ | refine blk_drew ?_ | refine blk_alloc ?_ _)); exact BK319.out) hb); replace HB := xp HB hb; (try clear hb); (try clear hb2); (try clear hk); (try clear hi)))
             go_meet
             case rel => exact ⟨_, ((t318 != t269)), (by first | rfl | (simp; done) | (simp [*]; done)), H', ⟨by have := HJ15.out; have := HJ80.out; first | omega | exact Nat.le_refl _⟩, ⟨by (try simp only [hl278000_80]); (try simp only [hl278001_80]); (with_reducible repeat (first | apply Kd.R_alloc | apply Kd.R_drewN | apply Kd.R_drew)); exact Kd.R_mono HO_271000.out (fun _ hk => ⟨hk.2.2.2.2.1, ⟨hk.2.2.2.2.2.1, ⟨hk.2.2.2.2.2.2.1, ⟨hk.2.2.2.2.2.2.2.1, ⟨hk.2.2.2.2.2.2.2.2, ⟨hk.2.2.1, hk.2.2.2.1⟩⟩⟩⟩⟩⟩)⟩, ⟨by (try simp only [hl278000_80]); (try simp only [hl278001_80]); (with_reducible repeat (first | apply Kd.R_alloc | apply Kd.R_drewN | apply Kd.R_drew)); exact Kd.R_mono HO_271001.out (fun _ hk => ⟨hk.2.2.2.2.1, ⟨hk.2.2.2.2.2.1, ⟨hk.2.2.2.2.2.2.1, ⟨hk.2.2.2.2.2.2.2.1, ⟨hk.2.2.2.2.2.2.2.2, ⟨hk.2.2.1, hk.2.2.2.1⟩⟩⟩⟩⟩⟩)⟩, ⟨by (try simp only [hl278000_80]); (try simp only [hl278001_80]); (with_reducible repeat (first | apply Kd.R_alloc | apply Kd.R_drewN | apply Kd.R_drew)); exact Kd.R_mono HO_278000.out (fun _ hk => ⟨hk.2.2.2.2.1, ⟨hk.2.2.2.2.2.1, ⟨hk.2.2.2.2.2.2.1, ⟨hk.2.2.2.2.2.2.2.1, ⟨hk.2.2.2.2.2.2.2.2, ⟨hk.2.2.1, hk.2.2.2.1⟩⟩⟩⟩⟩⟩)⟩, ⟨by (try simp only [hl278000_80]); (try simp only [hl278001_80]); (with_reducible repeat (first | apply Kd.R_alloc | apply Kd.R_drewN | apply Kd.R_drew)); exact Kd.R_mono HO_278001.out (fun _ hk => ⟨hk.2.2.2.2.1, ⟨hk.2.2.2.2.2.1, ⟨hk.2.2.2.2.2.2.1, ⟨hk.2.2.2.2.2.2.2.1, ⟨hk.2.2.2.2.2.2.2.2, ⟨hk.2.2.1, hk.2.2.2.1⟩⟩⟩⟩⟩⟩)⟩, ⟨by (try simp only [hl278000_80]); (try simp only [hl278001_80]); (with_reducible repeat (first | apply Kd.R_alloc | apply Kd.R_drewN | apply Kd.R_drew)); exact Kd.R_mono HO_288000.out (fun _ hk => ⟨hk.2.2.2.2.1, ⟨hk.2.2.2.2.2.1, ⟨hk.2.2.2.2.2.2.1, ⟨hk.2.2.2.2.2.2.2.1, ⟨hk.2.2.2.2.2.2.2.2, ⟨hk.2.2.1, hk.2.2.2.1⟩⟩⟩⟩⟩⟩)⟩, ⟨by (try simp only [hl278000_80]); (try simp only [hl278001_80]); (with_reducible repeat (first | apply Kd.R_alloc | apply Kd.R_drewN | apply Kd.R_drew)); exact Kd.R_mono HO_288001.out (fun _ hk => ⟨hk.2.2.2.2.1, ⟨hk.2.2.2.2.2.1, ⟨hk.2.2.2.2.2.2.1, ⟨hk.2.2.2.2.2.2.2.1, ⟨hk.2.2.2.2.2.2.2.2, ⟨hk.2.2.1, hk.2.2.2.1⟩⟩⟩⟩⟩⟩)⟩, ⟨by (try simp only [hl278000_80]); (try simp only [hl278001_80]); (with_reducible repeat (first | apply Kd.R_alloc | apply Kd.R_drewN | apply Kd.R_drew)); exact Kd.R_mono HO314.out (fun _ hk => ⟨hk.2.2.2.1, ⟨hk.2.2.2.2.1, ⟨hk.2.2.2.2.2.1, ⟨hk.2.2.2.2.2.2.1, ⟨hk.2.2.2.2.2.2.2.1, ⟨hk.2.2.2.2.2.2.2.2, hk.2.2.1⟩⟩⟩⟩⟩⟩)⟩, ⟨by (try simp only [hl278000_80]); (try simp only [hl278001_80]); (with_reducible repeat (first | apply Kd.R_alloc | apply Kd.R_drewN | apply Kd.R_drew)); exact Kd.R_mono HO317.out (fun _ hk => ⟨hk.2.2.2.1, ⟨hk.2.2.2.2.1, ⟨hk.2.2.2.2.2.1, ⟨hk.2.2.2.2.2.2.1, ⟨hk.2.2.2.2.2.2.2.1, ⟨hk.2.2.2.2.2.2.2.2, hk.2.2.1⟩⟩⟩⟩⟩⟩)⟩, ⟨by (try simp only [hl278000_80]); (try simp only [hl278001_80]); (with_reducible repeat (first | refine blk_drewN ?_ _ | refine blk_drew ?_ | refine blk_alloc ?_ _)); exact BK252.out⟩, ⟨by (try simp only [hl278000_80]); (try simp only [hl278001_80]); (with_reducible repeat (first | refine blk_drewN ?_ _ | refine blk_drew ?_ | refine blk_alloc ?_ _)); exact BK253.out⟩, ⟨by (try simp only [hl278000_80]); (try simp only [hl278001_80]); (with_reducible repeat (first | refine blk_drewN ?_ _ | refine blk_drew ?_ | refine blk_alloc ?_ _)); exact BK270.out⟩, ⟨by (try simp only [hl278000_80]); (try simp only [hl278001_80]); (with_reducible repeat (first | refine blk_drewN ?_ _ | refine blk_drew ?_ | refine blk_alloc ?_ _)); exact BK277.out⟩, ⟨by (try simp only [hl278000_80]); (try simp only [hl278001_80]); (with_reducible repeat (first | refine blk_drewN ?_ _ | refine blk_drew ?_ | refine blk_alloc ?_ _)); exact BK287.out⟩, ⟨by (try simp only [hl278000_80]); (try simp only [hl278001_80]); (with_reducible repeat (first | refine blk_drewN ?_ _ | refine blk_drew ?_ | refine blk_alloc ?_ _)); exact BK319.out⟩, ⟨xs HB.out⟩⟩
            ·replace c146 := Bool.eq_false_iff.mpr c146
             subst c146
             have H1 : (laws_FnExactMakeMove.j2 kj80 t300 true t301 t302) = some true := by first | (rw [if_neg (show ¬ (false = true) by decide)] at H; exact H) | rfl
             clear H
             have H := H1
             clear H1
             have H' := Aside0.mk H
             clear H
             have hnb159 := NB319_252.out
             have hnc159 := NB252_319.out
             have hnb160 := NB319_253.out
             have hnc160 := NB253_319.out
             have hnb161 := NB319_270.out
             have hnc161 := NB270_319.out
             have hnb162 := NB319_277.out
             have hnc162 := NB277_319.out
             have hnb163 := NB319_287.out
             have hnc163 := NB287_319.out
             have hcz164_0 : w140.cell? ⟨gb319, 0, none⟩ = some (.slice none 0 0) := (blk_cell BK319.out 0).trans rfl
             have hcz164_1 : w140.cell? ⟨gb319, 1, none⟩ = some (.slice none 0 0) := (blk_cell BK319.out 1).trans rfl
             have hfz164_0 := blk_frozen BK319.out 0
             have hfz164_1 := blk_frozen BK319.out 1
             have hnb165 := NB270_252.out
             have hnc165 := NB252_270.out
             have hnb166 := NB270_253.out
             have hnc166 := NB253_270.out
             have hnb167 := NB270_277.out
             have hnc167 := NB277_270.out
             have hnb168 := NB270_287.out
             have hnc168 := NB287_270.out
             have hcz169_0 : w140.cell? ⟨gb270, 0, none⟩ = some (.slice Ao30 t263.length co30) := (blk_cell BK270.out 0).trans rfl
             have hcz169_1 : w140.cell? ⟨gb270, 1, none⟩ = some (.slice Ao32 t266.length co32) := (blk_cell BK270.out 1).trans rfl
             have hfz169_0 := blk_frozen BK270.out 0
             have hfz169_1 := blk_frozen BK270.out 1
             go_wp2_with (first | ((with_reducible refine gate_callee (f := 19) rfl ?_); refine goesL_ (some 89) rfl rfl Try.func19 (by kernel_rfl) rfl #[.agg #[.slice Ao141 t312.length co141, .slice Ao143 t315.length co143], .agg #[.slice Ao30 t263.length co30, .slice Ao32 t266.length co32]] rfl (by (try simp only [List.map_toArray, List.map_cons, List.map_nil]); first | done | rfl | (simp only [List.length_drop, List.length_take]; rfl)) ?_; (with_reducible refine (laws_eqVessels.calls kj80 _ _ t312 _ _ t315 _ _ t263 _ _ t266 false _ ?side1 ?side2 ?side3 ?side4 ?side5 ?side6 ?side7 ?side8 A145.out).mono ?_); (case side1 => refine (Kd.R_reads' (e := 3) (base := w.heap.size) (ok := fun k_ => (nV k_ v305 ∧ (nV k_ v308 ∧ (nS k_ Ao143 t315.length co143 ∧ (nS k_ Ao30 t263.length co30 ∧ (nS k_ Ao32 t266.length co32 ∧ (nS k_ Ao38 t297.length co38 ∧ (nS k_ Ao43 t298.length co43 ∧ (nS k_ Ao50 t280.length co50 ∧ nS k_ Ao52 t283.length co52))))))))) (n := t312.length) (c := co141) ?_).2.2; exact (by (with_reducible repeat (first | apply Kd.R_alloc | apply Kd.R_drewN | apply Kd.R_drew)); exact (Kd.R_mono (Kd.R_far (p := ⟨gb319, 1, none⟩) (Kd.R_far (p := ⟨gb319, 0, none⟩) (Kd.R_types HO314.out BK319.out (by decide)) (fun _ hk => hk.2) (.slice Ao141 t312.length co141)) (fun _ hk => hk.2) (.slice Ao143 t315.length co143)) (fun _ h_ => h_.1)))); (case side2 => exact (Kd.R_reads' HO314.out).2.1); (case side3 => refine (Kd.R_reads' (e := 3) (base := w.heap.size) (ok := fun k_ => (nV k_ v305 ∧ (nV k_ v308 ∧ (nS k_ Ao141 t312.length co141 ∧ (nS k_ Ao30 t263.length co30 ∧ (nS k_ Ao32 t266.length co32 ∧ (nS k_ Ao38 t297.length co38 ∧ (nS k_ Ao43 t298.length co43 ∧ (nS k_ Ao50 t280.length co50 ∧ nS k_ Ao52 t283.length co52))))))))) (n := t315.length) (c := co143) ?_).2.2; exact (by (with_reducible repeat (first | apply Kd.R_alloc | apply Kd.R_drewN | apply Kd.R_drew)); exact (Kd.R_mono (Kd.R_far (p := ⟨gb319, 1, none⟩) (Kd.R_far (p := ⟨gb319, 0, none⟩) (Kd.R_types HO317.out BK319.out (by decide)) (fun _ hk => hk.2) (.slice Ao141 t312.length co141)) (fun _ hk => hk.2) (.slice Ao143 t315.length co143)) (fun _ h_ => h_.1)))); (case side4 => exact (Kd.R_reads' HO317.out).2.1); (case side5 => refine (Kd.R_reads' (e := 3) (base := w.heap.size) (ok := fun k_ => (nV k_ v305 ∧ (nV k_ v308 ∧ (nS k_ Ao141 t312.length co141 ∧ (nS k_ Ao143 t315.length co143 ∧ (nS k_ Ao32 t266.length co32 ∧ (nS k_ Ao38 t297.length co38 ∧ (nS k_ Ao43 t298.length co43 ∧ (nS k_ Ao50 t280.length co50 ∧ nS k_ Ao52 t283.length co52))))))))) (n := t263.length) (c := co30) ?_).2.2; exact (by (with_reducible repeat (first | apply Kd.R_alloc | apply Kd.R_drewN | apply Kd.R_drew)); exact (Kd.R_mono (Kd.R_far (p := ⟨gb319, 1, none⟩) (Kd.R_far (p := ⟨gb319, 0, none⟩) (Kd.R_types HO_271000.out BK319.out (by decide)) (fun _ hk => hk.2) (.slice Ao141 t312.length co141)) (fun _ hk => hk.2) (.slice Ao143 t315.length co143)) (fun _ h_ => h_.1)))); (case side6 => exact (Kd.R_reads' HO_271000.out).2.1); (case side7 => refine (Kd.R_reads' (e := 3) (base := w.heap.size) (ok := fun k_ => (nV k_ v305 ∧ (nV k_ v308 ∧ (nS k_ Ao141 t312.length co141 ∧ (nS k_ Ao143 t315.length co143 ∧ (nS k_ Ao30 t263.length co30 ∧ (nS k_ Ao38 t297.length co38 ∧ (nS k_ Ao43 t298.length co43 ∧ (nS k_ Ao50 t280.length co50 ∧ nS k_ Ao52 t283.length co52))))))))) (n := t266.length) (c := co32) ?_).2.2; exact (by (with_reducible repeat (first | apply Kd.R_alloc | apply Kd.R_drewN | apply Kd.R_drew)); exact (Kd.R_mono (Kd.R_far (p := ⟨gb319, 1, none⟩) (Kd.R_far (p := ⟨gb319, 0, none⟩) (Kd.R_types HO_271001.out BK319.out (by decide)) (fun _ hk => hk.2) (.slice Ao141 t312.length co141)) (fun _ hk => hk.2) (.slice Ao143 t315.length co143)) (fun _ h_ => h_.1)))); (case side8 => exact (Kd.R_reads' HO_271001.out).2.1); rintro e w170 ⟨rfl, hb⟩; refine ⟨_, rfl, ?_⟩; replace HO_271000 := Aside0.mk (Kd.R_below (by (with_reducible repeat (first | apply Kd.R_alloc | apply Kd.R_drewN | apply Kd.R_drew)); exact (Kd.R_mono (Kd.R_far (p := ⟨gb319, 1, none⟩) (Kd.R_far (p := ⟨gb319, 0, none⟩) (Kd.R_types HO_271000.out BK319.out (by decide)) (fun _ hk => hk.2) (.slice Ao141 t312.length co141)) (fun _ hk => hk.2) (.slice Ao143 t315.length co143)) (fun _ h_ => h_.1))) hb); replace HO_271001 := Aside0.mk (Kd.R_below (by (with_reducible repeat (first | apply Kd.R_alloc | apply Kd.R_drewN | apply Kd.R_drew)); exact (Kd.R_mono (Kd.R_far (p := ⟨gb319, 1, none⟩) (Kd.R_far (p := ⟨gb319, 0, none⟩) (Kd.R_types HO_271001.out BK319.out (by decide)) (fun _ hk => hk.2) (.slice Ao141 t312.length co141)) (fun _ hk => hk.2) (.slice Ao143 t315.length co143)) (fun _ h_ => h_.1))) hb); replace HO_278000 := Aside0.mk (Kd.R_below (by (with_reducible repeat (first | apply Kd.R_alloc | apply Kd.R_drewN | apply Kd.R_drew)); exact (Kd.R_mono (Kd.R_far (p := ⟨gb319, 1, none⟩) (Kd.R_far (p := ⟨gb319, 0, none⟩) (Kd.R_types HO_278000.out BK319.out (by decide)) (fun _ hk => hk.2) (.slice Ao141 t312.length co141)) (fun _ hk => hk.2) (.slice Ao143 t315.length co143)) (fun _ h_ => h_.1))) hb); replace HO_278001 := Aside0.mk (Kd.R_below (by (with_reducible repeat (first | apply Kd.R_alloc | apply Kd.R_drewN | apply Kd.R_drew)); exact (Kd.R_mono (Kd.R_far (p := ⟨gb319, 1, none⟩) (Kd.R_far (p := ⟨gb319, 0, none⟩) (Kd.R_types HO_278001.out BK319.out (by decide)) (fun _ hk => hk.2) (.slice Ao141 t312.length co141)) (fun _ hk => hk.2) (.slice Ao143 t315.length co143)) (fun _ h_ => h_.1))) hb); replace HO_288000 := Aside0.mk (Kd.R_below (by (with_reducible repeat (first | apply Kd.R_alloc | apply Kd.R_drewN | apply Kd.R_drew)); exact (Kd.R_mono (Kd.R_far (p := ⟨gb319, 1, none⟩) (Kd.R_far (p := ⟨gb319, 0, none⟩) (Kd.R_types HO_288000.out BK319.out (by decide)) (fun _ hk => hk.2) (.slice Ao141 t312.length co141)) (fun _ hk => hk.2) (.slice Ao143 t315.length co143)) (fun _ h_ => h_.1))) hb); replace HO_288001 := Aside0.mk (Kd.R_below (by (with_reducible repeat (first | apply Kd.R_alloc | apply Kd.R_drewN | apply Kd.R_drew)); exact (Kd.R_mono (Kd.R_far (p := ⟨gb319, 1, none⟩) (Kd.R_far (p := ⟨gb319, 0, none⟩) (Kd.R_types HO_288001.out BK319.out (by decide)) (fun _ hk => hk.2) (.slice Ao141 t312.length co141)) (fun _ hk => hk.2) (.slice Ao143 t315.length co143)) (fun _ h_ => h_.1))) hb); replace HO306 := Aside0.mk (Kd.R_below (by (with_reducible repeat (first | apply Kd.R_alloc | apply Kd.R_drewN | apply Kd.R_drew)); exact (Kd.R_mono (Kd.R_far (p := ⟨gb319, 1, none⟩) (Kd.R_far (p := ⟨gb319, 0, none⟩) (Kd.R_types HO306.out BK319.out (by decide)) (fun _ hk => hk.2) (.slice Ao141 t312.length co141)) (fun _ hk => hk.2) (.slice Ao143 t315.length co143)) (fun _ h_ => h_.1))) hb); replace HO309 := Aside0.mk (Kd.R_below (by (with_reducible repeat (first | apply Kd.R_alloc | apply Kd.R_drewN | apply Kd.R_drew)); exact (Kd.R_mono (Kd.R_far (p := ⟨gb319, 1, none⟩) (Kd.R_far (p := ⟨gb319, 0, none⟩) (Kd.R_types HO309.out BK319.out (by decide)) (fun _ hk => hk.2) (.slice Ao141 t312.length co141)) (fun _ hk => hk.2) (.slice Ao143 t315.length co143)) (fun _ h_ => h_.1))) hb); replace HO314 := Aside0.mk (Kd.R_below (by (with_reducible repeat (first | apply Kd.R_alloc | apply Kd.R_drewN | apply Kd.R_drew)); exact (Kd.R_mono (Kd.R_far (p := ⟨gb319, 1, none⟩) (Kd.R_far (p := ⟨gb319, 0, none⟩) (Kd.R_types HO314.out BK319.out (by decide)) (fun _ hk => hk.2) (.slice Ao141 t312.length co141)) (fun _ hk => hk.2) (.slice Ao143 t315.length co143)) (fun _ h_ => h_.1))) hb); replace HO317 := Aside0.mk (Kd.R_below (by (with_reducible repeat (first | apply Kd.R_alloc | apply Kd.R_drewN | apply Kd.R_drew)); exact (Kd.R_mono (Kd.R_far (p := ⟨gb319, 1, none⟩) (Kd.R_far (p := ⟨gb319, 0, none⟩) (Kd.R_types HO317.out BK319.out (by decide)) (fun _ hk => hk.2) (.slice Ao141 t312.length co141)) (fun _ hk => hk.2) (.slice Ao143 t315.length co143)) (fun _ h_ => h_.1))) hb); replace BK252 := Aside0.mk (blk_below (g := gb252) (o := .cells #[.slice A0_0 l0_0.length c0_0, .slice A0_1 l0_1.length c0_1] 24 (0, 0)) (xff NB252_319.out NB252_319.out BK252.out) hb); replace BK253 := Aside0.mk (blk_below (g := gb253) (o := .cells #[.int .i64 a1_0, .int .i64 a1_1] 39 (0, 0)) (xff NB253_319.out NB253_319.out BK253.out) hb); replace BK270 := Aside0.mk (blk_below (g := gb270) (o := .cells #[.slice Ao30 t263.length co30, .slice Ao32 t266.length co32] 26 (0, 0)) (xff NB270_319.out NB270_319.out BK270.out) hb); replace BK277 := Aside0.mk (blk_below (g := gb277) (o := .cells #[.slice Ao38 t297.length co38, .slice Ao43 t298.length co43] 26 (0, 0)) (xff NB277_319.out NB277_319.out BK277.out) hb); replace BK287 := Aside0.mk (blk_below (g := gb287) (o := .cells #[.slice Ao50 t280.length co50, .slice Ao52 t283.length co52] 26 (0, 0)) (xff NB287_319.out NB287_319.out BK287.out) hb); replace BK319 := Aside0.mk (blk_below (g := gb319) (o := .cells #[.slice Ao141 t312.length co141, .slice Ao143 t315.length co143] 26 (0, 0)) (by (with_reducible repeat (first | refine blk_drewN ?_ _ | refine blk_drew ?_ | refine blk_alloc ?_ _)); refine blk_put (cs := #[.slice Ao141 t312.length co141, .slice none 0 0]) ?_ 1 _ rfl; (with_reducible repeat (first | refine blk_drewN ?_ _ | refine blk_drew ?_ | refine blk_alloc ?_ _)); refine blk_put (cs := #[.slice none 0 0, .slice none 0 0]) ?_ 0 _ rfl; (with_reducible repeat (first | refine blk_drewN ?_ _ | refine blk_drew ?_ | refine blk_alloc ?_ _)); exact BK319.out) hb); replace HB := xp HB hb; (try clear hb); (try clear hb2); (try clear hk); (try clear hi)))
             go_meet
             case rel => exact ⟨_, (true), (by first | rfl | (simp; done) | (simp [*]; done)), H', ⟨by have := HJ15.out; have := HJ80.out; first | omega | exact Nat.le_refl _⟩, ⟨by (try simp only [hl278000_80]); (try simp only [hl278001_80]); (with_reducible repeat (first | apply Kd.R_alloc | apply Kd.R_drewN | apply Kd.R_drew)); exact Kd.R_mono HO_271000.out (fun _ hk => ⟨hk.2.2.2.2.1, ⟨hk.2.2.2.2.2.1, ⟨hk.2.2.2.2.2.2.1, ⟨hk.2.2.2.2.2.2.2.1, ⟨hk.2.2.2.2.2.2.2.2, ⟨hk.2.2.1, hk.2.2.2.1⟩⟩⟩⟩⟩⟩)⟩, ⟨by (try simp only [hl278000_80]); (try simp only [hl278001_80]); (with_reducible repeat (first | apply Kd.R_alloc | apply Kd.R_drewN | apply Kd.R_drew)); exact Kd.R_mono HO_271001.out (fun _ hk => ⟨hk.2.2.2.2.1, ⟨hk.2.2.2.2.2.1, ⟨hk.2.2.2.2.2.2.1, ⟨hk.2.2.2.2.2.2.2.1, ⟨hk.2.2.2.2.2.2.2.2, ⟨hk.2.2.1, hk.2.2.2.1⟩⟩⟩⟩⟩⟩)⟩, ⟨by (try simp only [hl278000_80]); (try simp only [hl278001_80]); (with_reducible repeat (first | apply Kd.R_alloc | apply Kd.R_drewN | apply Kd.R_drew)); exact Kd.R_mono HO_278000.out (fun _ hk => ⟨hk.2.2.2.2.1, ⟨hk.2.2.2.2.2.1, ⟨hk.2.2.2.2.2.2.1, ⟨hk.2.2.2.2.2.2.2.1, ⟨hk.2.2.2.2.2.2.2.2, ⟨hk.2.2.1, hk.2.2.2.1⟩⟩⟩⟩⟩⟩)⟩, ⟨by (try simp only [hl278000_80]); (try simp only [hl278001_80]); (with_reducible repeat (first | apply Kd.R_alloc | apply Kd.R_drewN | apply Kd.R_drew)); exact Kd.R_mono HO_278001.out (fun _ hk => ⟨hk.2.2.2.2.1, ⟨hk.2.2.2.2.2.1, ⟨hk.2.2.2.2.2.2.1, ⟨hk.2.2.2.2.2.2.2.1, ⟨hk.2.2.2.2.2.2.2.2, ⟨hk.2.2.1, hk.2.2.2.1⟩⟩⟩⟩⟩⟩)⟩, ⟨by (try simp only [hl278000_80]); (try simp only [hl278001_80]); (with_reducible repeat (first | apply Kd.R_alloc | apply Kd.R_drewN | apply Kd.R_drew)); exact Kd.R_mono HO_288000.out (fun _ hk => ⟨hk.2.2.2.2.1, ⟨hk.2.2.2.2.2.1, ⟨hk.2.2.2.2.2.2.1, ⟨hk.2.2.2.2.2.2.2.1, ⟨hk.2.2.2.2.2.2.2.2, ⟨hk.2.2.1, hk.2.2.2.1⟩⟩⟩⟩⟩⟩)⟩, ⟨by (try simp only [hl278000_80]); (try simp only [hl278001_80]); (with_reducible repeat (first | apply Kd.R_alloc | apply Kd.R_drewN | apply Kd.R_drew)); exact Kd.R_mono HO_288001.out (fun _ hk => ⟨hk.2.2.2.2.1, ⟨hk.2.2.2.2.2.1, ⟨hk.2.2.2.2.2.2.1, ⟨hk.2.2.2.2.2.2.2.1, ⟨hk.2.2.2.2.2.2.2.2, ⟨hk.2.2.1, hk.2.2.2.1⟩⟩⟩⟩⟩⟩)⟩, ⟨by (try simp only [hl278000_80]); (try simp only [hl278001_80]); (with_reducible repeat (first | apply Kd.R_alloc | apply Kd.R_drewN | apply Kd.R_drew)); exact Kd.R_mono HO314.out (fun _ hk => ⟨hk.2.2.2.1, ⟨hk.2.2.2.2.1, ⟨hk.2.2.2.2.2.1, ⟨hk.2.2.2.2.2.2.1, ⟨hk.2.2.2.2.2.2.2.1, ⟨hk.2.2.2.2.2.2.2.2, hk.2.2.1⟩⟩⟩⟩⟩⟩)⟩, ⟨by (try simp only [hl278000_80]); (try simp only [hl278001_80]); (with_reducible repeat (first | apply Kd.R_alloc | apply Kd.R_drewN | apply Kd.R_drew)); exact Kd.R_mono HO317.out (fun _ hk => ⟨hk.2.2.2.1, ⟨hk.2.2.2.2.1, ⟨hk.2.2.2.2.2.1, ⟨hk.2.2.2.2.2.2.1, ⟨hk.2.2.2.2.2.2.2.1, ⟨hk.2.2.2.2.2.2.2.2, hk.2.2.1⟩⟩⟩⟩⟩⟩)⟩, ⟨by (try simp only [hl278000_80]); (try simp only [hl278001_80]); (with_reducible repeat (first | refine blk_drewN ?_ _ | refine blk_drew ?_ | refine blk_alloc ?_ _)); exact BK252.out⟩, ⟨by (try simp only [hl278000_80]); (try simp only [hl278001_80]); (with_reducible repeat (first | refine blk_drewN ?_ _ | refine blk_drew ?_ | refine blk_alloc ?_ _)); exact BK253.out⟩, ⟨by (try simp only [hl278000_80]); (try simp only [hl278001_80]); (with_reducible repeat (first | refine blk_drewN ?_ _ | refine blk_drew ?_ | refine blk_alloc ?_ _)); exact BK270.out⟩, ⟨by (try simp only [hl278000_80]); (try simp only [hl278001_80]); (with_reducible repeat (first | refine blk_drewN ?_ _ | refine blk_drew ?_ | refine blk_alloc ?_ _)); exact BK277.out⟩, ⟨by (try simp only [hl278000_80]); (try simp only [hl278001_80]); (with_reducible repeat (first | refine blk_drewN ?_ _ | refine blk_drew ?_ | refine blk_alloc ?_ _)); exact BK287.out⟩, ⟨by (try simp only [hl278000_80]); (try simp only [hl278001_80]); (with_reducible repeat (first | refine blk_drewN ?_ _ | refine blk_drew ?_ | refine blk_alloc ?_ _)); exact BK319.out⟩, ⟨xs HB.out⟩⟩
           case rest =>
            clear HC124
            try clear c1
            try clear c2
            try clear p2
            try clear c14
            try clear c15
            try clear c16
            try clear c17
            try clear c19
            try clear c27
            try clear c28
            try clear c146
            try clear c147
            try clear c148
            try clear c149
            try clear c150
            try clear c151
            try clear c153
            try clear c154
            try clear c155
            try clear c156
            try clear c159
            try clear c160
            try clear c161
            try clear c162
            try clear c163
            try clear c165
            try clear c166
            try clear c167
            try clear c168
            try clear hcz152_0
            try clear hcz152_1
            try clear hcz157_0
            try clear hcz157_1
            try clear hcz164_0
            try clear hcz164_1
            try clear hcz169_0
            try clear hcz169_1
            try clear hfz152_0
            try clear hfz152_1
            try clear hfz157_0
            try clear hfz157_1
            try clear hfz164_0
            try clear hfz164_1
            try clear hfz169_0
            try clear hfz169_1
            obtain ⟨kq, x95_123, rfl, HA, HJ123, HO_271000, HO_271001, HO_278000, HO_278001, HO_288000, HO_288001, HO_320000, HO_320001, BK252, BK253, BK270, BK277, BK287, BK319, HB⟩ := hcut
            have hl288000_123 := (Kd.R_reads' HO_288000.out).1
            rw [hl288000_123] at HO_288000
            (try simp only [hl288000_123])
            (try simp only [hl288000_123] at BK252)
            (try simp only [hl288000_123] at BK253)
            (try simp only [hl288000_123] at BK270)
            (try simp only [hl288000_123] at BK277)
            (try simp only [hl288000_123] at BK287)
            (try simp only [hl288000_123] at BK319)
            (try simp only [hl288000_123] at HO_271000)
            (try simp only [hl288000_123] at HO_271001)
            (try simp only [hl288000_123] at HO_278000)
            (try simp only [hl288000_123] at HO_278001)
            (try simp only [hl288000_123] at HO_288001)
            (try simp only [hl288000_123] at HO_320000)
            (try simp only [hl288000_123] at HO_320001)
            have hl288001_123 := (Kd.R_reads' HO_288001.out).1
            rw [hl288001_123] at HO_288001
            (try simp only [hl288001_123])
            (try simp only [hl288001_123] at BK252)
            (try simp only [hl288001_123] at BK253)
            (try simp only [hl288001_123] at BK270)
            (try simp only [hl288001_123] at BK277)
            (try simp only [hl288001_123] at BK287)
            (try simp only [hl288001_123] at BK319)
            (try simp only [hl288001_123] at HO_271000)
            (try simp only [hl288001_123] at HO_271001)
            (try simp only [hl288001_123] at HO_278000)
            (try simp only [hl288001_123] at HO_278001)
            (try simp only [hl288001_123] at HO_288000)
            (try simp only [hl288001_123] at HO_320000)
            (try simp only [hl288001_123] at HO_320001)
            cases kq with
            | zero => exact absurd HA.out (by simp [laws_FnExactMakeMove.j2])
            | succ kj123 =>
             have H := HA.out
             clear HA
             simp only [laws_FnExactMakeMove.j2] at H
             by_cases c171 : x95_123 = true
             ·subst c171
              have H1 : (some false) = some true := by first | (rw [if_pos rfl] at H; exact H) | rfl
              clear H
              have H := H1
              clear H1
              exact absurd H (by simp)
             ·replace c171 := Bool.eq_false_iff.mpr c171
              subst c171
              have H1 : ((laws_heldVessels.f kj123 t301 t302 1).bind fun t321 => (if t321 < 0 then (some false) else (if t321 = t300 then (some true) else (some false)))) = some true := by first | (rw [if_neg (show ¬ (false = true) by decide)] at H; exact H) | rfl
              clear H
              have H := H1
              clear H1
              replace H := Option.bind_eq_some_iff.mp H
              obtain ⟨t321, A1720, H⟩ := H
              replace H : (if t321 < 0 then (some false) else (if t321 = t300 then (some true) else (some false))) = some true := H
              have A172 := Aside0.mk A1720
              clear A1720
              by_cases c173 : t321 < 0
              ·rw [if_pos c173] at H
               have c173b0 : decide (t321 < 0) = true := decide_eq_true c173
               clear c173
               exact absurd H (by simp)
              ·rw [if_neg c173] at H
               have c173b0 : decide (t321 < 0) = false := decide_eq_false c173
               clear c173
               by_cases c174 : t321 = t300
               ·rw [if_pos c174] at H
                have c174b0 : (t321 == t300) = true := beq_iff_eq.mpr c174
                have c174b1 : (t321 != t300) = false := bne_eq_false_iff_eq.mpr c174
                clear c174
                clear H
                have hnb175 := NB287_252.out
                have hnc175 := NB252_287.out
                have hnb176 := NB287_253.out
                have hnc176 := NB253_287.out
                have hnb177 := NB287_270.out
                have hnc177 := NB270_287.out
                have hnb178 := NB287_277.out
                have hnc178 := NB277_287.out
                have hnb179 := NB287_319.out
                have hnc179 := NB319_287.out
                have hcz180_0 : wc.cell? ⟨gb287, 0, none⟩ = some (.slice Ao50 t301.length co50) := (blk_cell BK287.out 0).trans rfl
                have hcz180_1 : wc.cell? ⟨gb287, 1, none⟩ = some (.slice Ao52 t302.length co52) := (blk_cell BK287.out 1).trans rfl
                have hfz180_0 := blk_frozen BK287.out 0
                have hfz180_1 := blk_frozen BK287.out 1
                go_wp2_with (first | ((with_reducible refine gate_callee (f := 21) rfl ?_); refine goesL_ (some 98) rfl rfl Try.func21 (by kernel_rfl) rfl #[.agg #[.slice Ao50 t301.length co50, .slice Ao52 t302.length co52], .int .i64 1] rfl (by (try simp only [List.map_toArray, List.map_cons, List.map_nil]); first | done | rfl | (simp only [List.length_drop, List.length_take]; rfl)) ?_; (with_reducible refine (laws_heldVessels.calls kj123 _ _ t301 _ _ t302 1 t321 _ ?side1 ?side2 ?side3 ?side4 A172.out).mono ?_); (case side1 => exact xd ((Kd.R_reads' HO_288000.out).2.2)); (case side2 => exact (Kd.R_reads' HO_288000.out).2.1); (case side3 => exact xd ((Kd.R_reads' HO_288001.out).2.2)); (case side4 => exact (Kd.R_reads' HO_288001.out).2.1); rintro e w181 ⟨rfl, hb⟩; refine ⟨_, rfl, ?_⟩; replace HO_271000 := xq HO_271000 hb; replace HO_271001 := xq HO_271001 hb; replace HO_278000 := xq HO_278000 hb; replace HO_278001 := xq HO_278001 hb; replace HO_288000 := xq HO_288000 hb; replace HO_288001 := xq HO_288001 hb; replace HO_320000 := xq HO_320000 hb; replace HO_320001 := xq HO_320001 hb; replace BK252 := xk BK252 hb; replace BK253 := xk BK253 hb; replace BK270 := xk BK270 hb; replace BK277 := xk BK277 hb; replace BK287 := xk BK287 hb; replace BK319 := xk BK319 hb; replace HB := xp HB hb; (try clear hb); (try clear hb2); (try clear hk); (try clear hi)))
                go_ret
                exact ⟨by first | rfl | (simp [errW_none, errW_some] <;> rfl) | (simp [*, errW_none, errW_some] <;> rfl), by repeat (first | (with_reducible first | exact HB.out | apply below_alloc | apply pw_below_drewN | apply below_drew1 | refine below_set ?_ GE252.out | refine below_set ?_ GE253.out | refine below_set ?_ GE270.out | refine below_set ?_ GE277.out | refine below_set ?_ GE287.out | refine below_set ?_ GE319.out) | exact HB.out)⟩
               ·rw [if_neg c174] at H
                have c174b0 : (t321 == t300) = false := beq_eq_false_iff_ne.mpr c174
                have c174b1 : (t321 != t300) = true := bne_iff_ne.mpr c174
                exact absurd H (by simp)
          ·rw [if_neg c120] at H
           have c120b0 : (t303 == t300) = false := beq_eq_false_iff_ne.mpr c120
           have c120b1 : (t303 != t300) = true := bne_iff_ne.mpr c120
           exact absurd H (by simp)
     ·replace c79 := Bool.eq_false_iff.mpr c79
      subst c79
      have H1 : (some false) = some true := by first | (rw [if_neg (show ¬ (false = true) by decide)] at H; exact H) | rfl
      clear H
      have H := H1
      clear H1
      exact absurd H (by simp)

end Go.Proofs.Ytobkbpoamicjgaa.PFnExactMakeMove

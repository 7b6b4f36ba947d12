/- Lean functions of the Go functions that the law FnExactGroupLevels reaches, and the proofs that the calls come to what they say (made by program). -/
import Derived.Test.YtedkbaadbnpkoaaAb
import Derived.Test.YtedkbaadbnpkoaaPFnExactGroupLevelsx0
import Derived.Test.YtedkbaadbnpkoaaPFnExactGroupLevelsx1
import Derived.Test.YtedkbaadbnpkoaaPFnExactGroupLevelsx2
import Derived.Test.YtedkbaadbnpkoaaPFnExactGroupLevelsx3
import Derived.Test.YtedkbaadbnpkoaaPFnExactGroupLevelsx8
import Derived.Test.YtedkbaadbnpkoaaPFnExactGroupLevelsx10
import Derived.Test.YtedkbaadbnpkoaaPFnExactGroupLevelsx13
namespace Go.Proofs.Ytedkbaadbnpkoaa.PFnExactGroupLevels
open Go.RowKit Go.Proofs.YtedkbaadbnpkoaaW.PrintWords Go.Proofs.YtedkbaadbnpkoaaW.PrintLast Go.Proofs.YtedkbaadbnpkoaaW.PrintMore Go.Proofs.Ytedkbaadbnpkoaa.Ab
attribute [local go_sem] max2_int min2_int max_two min_two max_three min_three max_four min_four   -- for this text's walks alone
set_option linter.unusedVariables false
set_option linter.unusedSimpArgs false

/-! ### impl_someOf: function 63 -/
def impl_someOf.l0 : Nat → List (S63) → List (S63) → List Int → Int → Int → Option ((List (S63)))
  | 0, _, _, _, _, _ => none
  | k + 1, x0, x5, x9, x10, x11 => if x11 < x10 then (if 0 ≤ x11 then (if x11 < (x9.length : Int) then (if 0 ≤ (rd x9 x11) then (if (rd x9 x11) < (x0.length : Int) then (if x5.length < 5864062014805 then (impl_someOf.l0 k x0 (x5 ++ [(⟨(rd_T63 x0 (rd x9 x11)).f0, (rd_T63 x0 (rd x9 x11)).f1, (rd_T63 x0 (rd x9 x11)).f2⟩ : S63)]) x9 x10 (wrap64 (x11 + 1))) else (none)) else (none)) else (none)) else (none)) else (none)) else (some x5)
def impl_someOf.f (k : Nat) (l0 : List (S63)) (l1 : List Int) : Option ((List (S63))) := impl_someOf.l0 k l0 (([] : List (S63))) l1 (l1.length : Int) 0
set_option maxHeartbeats 8000000 in
set_option maxRecDepth 100000 in
theorem impl_someOf.calls (k : Nat) (A0 : Option Addr) (c0 : Nat) (l0 : List (S63)) (A1 : Option Addr) (c1 : Nat) (l1 : List Int) (r : List (S63)) (w : World) (hr0 : Kd.C k63 w A0 l0.length l0) (hc0 : l0.length ≤ c0) (hr1 : Kd.C (Kd.int .i64) w A1 l1.length l1) (hc1 : l1.length ≤ c1) (h : impl_someOf.f k l0 l1 = some r) :
  Calls Try.prog 63 #[.slice A0 l0.length c0, .slice A1 l1.length c1] w fun e w' => ∃ v0_ : Value, e = .returned (v0_) ∧ Kd.R k63 63 w' w.heap.size (fun _ => True) v0_ r ∧ Below w.heap.size w w' := by
 have hu63 := Try.underlying63
 have HR0 := Aside0.mk hr0
 have HC0 := Aside0.mk hc0
 clear hr0 hc0
 have HR1 := Aside0.mk hr1
 have HC1 := Aside0.mk hc1
 clear hr1 hc1
 have HB := Aside0.mk (Below.refl w.heap.size w)
 have H : (impl_someOf.l0 k l0 (([] : List (S63))) l1 (l1.length : Int) 0) = some r := h
 clear h
 obtain ⟨y324, hy324⟩ : ∃ y_ : List (S63), y_ = (([] : List (S63))) := ⟨_, rfl⟩
 replace H : (impl_someOf.l0 k l0 y324 l1 (l1.length : Int) 0) = some r := by first | (rw [hy324]; with_reducible exact H) | (have H2_ := (Option.bind_some _ _).symm.trans H; rw [hy324]; with_reducible exact H2_) | (have H2_ := (Option.bind_some _ _).symm.trans H; with_reducible exact H2_) | with_reducible exact H | (rw [hy324]; exact H) | exact H
 have Ny324 := Aside0.mk hy324
 clear hy324
 have H' := Aside0.mk H
 clear H
 go_enter Try.func63, Try.ntmps63
 go_wp2_with (first | ((with_reducible refine gate_dst (N := 8) rfl ?_); refine Kd.R_lit k63 _ 63 ?hg (N := 8) ?hd (xs := ([] : List (S63))) (inner := []) (ok := fun _ => True) (okp := fun _ => True) ?hr ?hp (fun _ hk => hk) trivial (Below.refl _ _) (Nat.le_refl _) (by simp) ?_; (case hd => rfl); (case hg => rfl); (case hr => first | (go_simp; done) | (go_simp; rfl)); (case hp => exact (Reps.none _ _)); intro v325 w3 ho4 hb hg_ hnew_; clear hg_ hnew_; (first | rw [← Ny324.out] at ho4 | (simp only [Int.reduceToNat] at ho4; rw [← Ny324.out] at ho4)); have HO326 := Aside0.mk (Kd.R_lower ho4 (below_size (xs HB.out))); replace HB := xp HB hb; clear hb ho4))
 go_loopg [5, 11] k (fun kq v5 v11 w' => ∃ (x5_1 : List (S63)) (x11_1 : Int), v11 = .int .i64 x11_1 ∧ Aside0 (impl_someOf.l0 kq l0 x5_1 l1 (l1.length : Int) x11_1 = some r) ∧ Aside0 (kq ≤ k) ∧ Aside0 (Kd.R k63 63 w' w.heap.size (fun _ => True) v5 x5_1) ∧ Aside0 (Below w.heap.size w w'))
 case atStart => exact ⟨(y324), (0), (by first | rfl | (simp; done) | (simp [*]; done)), H', ⟨Nat.le_refl _⟩, ⟨xr HO326.out⟩, ⟨xs HB.out⟩⟩
 case round =>
  clear H'
  try clear c1
  try clear p2
  obtain ⟨x5_1, x11_1, rfl, HA, HK1, HO_5, HB⟩ := hrel
  cases gk with
  | zero => exact absurd HA.out (by simp [impl_someOf.l0])
  | succ k1 =>
   have H := HA.out
   clear HA
   simp only [impl_someOf.l0] at H
   by_cases c5 : x11_1 < (l1.length : Int)
   ·rw [if_pos c5] at H
    have c5b0 : decide (x11_1 < (l1.length : Int)) = true := decide_eq_true c5
    clear c5
    by_cases c6 : 0 ≤ x11_1
    ·rw [if_pos c6] at H
     have c6b0 : decide (0 ≤ x11_1) = true := decide_eq_true c6
     clear c6
     by_cases c7 : x11_1 < (l1.length : Int)
     ·rw [if_pos c7] at H
      have c7b0 : decide (x11_1 < (l1.length : Int)) = true := decide_eq_true c7
      clear c7
      by_cases c8 : 0 ≤ (rd l1 x11_1)
      ·rw [if_pos c8] at H
       have c8b0 : decide (0 ≤ (rd l1 x11_1)) = true := decide_eq_true c8
       clear c8
       by_cases c9 : (rd l1 x11_1) < (l0.length : Int)
       ·rw [if_pos c9] at H
        have c9b0 : decide ((rd l1 x11_1) < (l0.length : Int)) = true := decide_eq_true c9
        clear c9
        by_cases c10 : x5_1.length < 5864062014805
        ·rw [if_pos c10] at H
         have LMc10 := Aside0.mk c10
         clear c10
         obtain ⟨y329, hy329⟩ : ∃ y_ : List (S63), y_ = (x5_1 ++ [(⟨(rd_T63 l0 (rd l1 x11_1)).f0, (rd_T63 l0 (rd l1 x11_1)).f1, (rd_T63 l0 (rd l1 x11_1)).f2⟩ : S63)]) := ⟨_, rfl⟩
         replace H : (impl_someOf.l0 k1 l0 y329 l1 (l1.length : Int) (wrap64 (x11_1 + 1))) = some r := by first | (rw [hy329]; with_reducible exact H) | (have H2_ := (Option.bind_some _ _).symm.trans H; rw [hy329]; with_reducible exact H2_) | (have H2_ := (Option.bind_some _ _).symm.trans H; with_reducible exact H2_) | with_reducible exact H | (rw [hy329]; exact H) | exact H
         have Ny329 := Aside0.mk hy329
         clear hy329
         have H' := Aside0.mk H
         clear H
         have p327 : 0 ≤ (x11_1 : Int) := of_decide_eq_true (by first | (with_reducible assumption) | assumption)
         have q327 : x11_1 < (l1.length : Int) := of_decide_eq_true (by first | (with_reducible assumption) | assumption)
         obtain ⟨ad327, e327, hx327_0⟩ := Kd.at_int HR1.out x11_1 p327 q327
         cases e327
         replace hx327_0 := (HB.out.cell (World.block_lt_of_cell? w _ hx327_0)).trans hx327_0
         replace p327 := eq_true p327
         replace q327 := eq_true q327
         have p328 : 0 ≤ ((rd l1 x11_1) : Int) := of_decide_eq_true (by first | (with_reducible assumption) | assumption)
         have q328 : (rd l1 x11_1) < (l0.length : Int) := of_decide_eq_true (by first | (with_reducible assumption) | assumption)
         obtain ⟨ad328, e328, hx328_0, hx328_1, hx328_2⟩ := at_T63 HR0.out (rd l1 x11_1) p328 q328
         cases e328
         replace hx328_0 := (HB.out.cell (World.block_lt_of_cell? w _ hx328_0)).trans hx328_0
         replace hx328_1 := (HB.out.cell (World.block_lt_of_cell? w _ hx328_1)).trans hx328_1
         replace hx328_2 := (HB.out.cell (World.block_lt_of_cell? w _ hx328_2)).trans hx328_2
         replace p328 := eq_true p328
         replace q328 := eq_true q328
         go_wp2_with (first | ((with_reducible refine gate_builtin (b := .append) (xs := #[.tmp 15, .tmp 20]) rfl ?_); at_builtin; refine Kd.R_append k63 (w0 := w) w.heap.size rfl (.tmp 15) (.tmp 20) 27 63 (.agg #[(.int .i64 0), (.int .i64 0), (.int .i64 0)]) 24 rfl Try.underlying27 info63 rfl (by decide) (by omega) u5 x5_1 (⟨(rd_T63 l0 (rd l1 x11_1)).f0, (rd_T63 l0 (rd l1 x11_1)).f1, (rd_T63 l0 (rd l1 x11_1)).f2⟩ : S63) [.int .i64 ((rd_T63 l0 (rd l1 x11_1)).f0), .int .i64 ((rd_T63 l0 (rd l1 x11_1)).f1), .int .i64 ((rd_T63 l0 (rd l1 x11_1)).f2)] (fun _ => True) (fun _ => False) rfl rfl ?aP (fun _ hk => hk.elim) ?aF ?aO ?aB ?aS ?aL ?_; (case aP => exact k63_mkM _ _ _ (⟨(rd_T63 l0 (rd l1 x11_1)).f0, (rd_T63 l0 (rd l1 x11_1)).f1, (rd_T63 l0 (rd l1 x11_1)).f2⟩ : S63)); (case aB => exact (xs HB.out)); (case aF => exact (fun _ _ => trivial)); (case aO => exact (xr HO_5.out)); (case aS => exact (below_size (xs HB.out))); (case aL => have := LMc10.out; omega); intro v330 w11 ho hb hg hat; rw [← Ny329.out] at ho; replace HB := Aside0.mk (hb); have HO331 := Aside0.mk (ho); clear HO_5; clear ho hb hg hat))
         go_roundg k1
         case measure => have := HK1.out; omega
         case rel => exact ⟨(y329), (wrap64 (x11_1 + 1)), (by first | rfl | (simp; done) | (simp [*]; done)), H', ⟨by have := HK1.out; omega⟩, ⟨xr HO331.out⟩, ⟨xs HB.out⟩⟩
        ·rw [if_neg c10] at H
         exact absurd H (by simp)
       ·rw [if_neg c9] at H
        exact absurd H (by simp)
      ·rw [if_neg c8] at H
       exact absurd H (by simp)
     ·rw [if_neg c7] at H
      exact absurd H (by simp)
    ·rw [if_neg c6] at H
     exact absurd H (by simp)
   ·rw [if_neg c5] at H
    have c5b0 : decide (x11_1 < (l1.length : Int)) = false := decide_eq_false c5
    clear c5
    obtain rfl := Option.some.inj H
    go_wp2
    go_ret
    exact ⟨_, by first | rfl | (simp [errW_none, errW_some] <;> rfl) | (simp [*, errW_none, errW_some] <;> rfl), by (with_reducible repeat (first | apply Kd.R_alloc | apply Kd.R_drewN | apply Kd.R_drew)); exact HO_5.out, by repeat (first | (with_reducible first | exact HB.out | apply below_alloc | apply pw_below_drewN | apply below_drew1) | exact HB.out)⟩

/-! ### impl_GroupLevels: function 30 -/
def impl_GroupLevels.l0 : Nat → List (S63) → List (S44) → List (List Int) → Int → Int → Option ((List (S44)) × Bool)
  | 0, _, _, _, _, _ => none
  | k + 1, x0, x8, x20, x21, x22 => if x22 < x21 then (if 0 ≤ x22 then (if x22 < (x20.length : Int) then ((impl_someOf.f k x0 (rd_L4 x20 x22)).bind fun t340 => ((impl_common.f k t340).bind fun bt343 => (if x8.length < 8796093022208 then (impl_GroupLevels.l0 k x0 (x8 ++ [(⟨bt343.1, bt343.2⟩ : S44)]) x20 x21 (wrap64 (x22 + 1))) else (none)))) else (none)) else (none)) else (some (x8, true))
def impl_GroupLevels.f (k : Nat) (l0 : List (S63)) (l1 : List (List Int)) : Option ((List (S44)) × Bool) := (impl_GroupsOf.f k l0 l1).bind fun bt332 => (if bt332.2 = true then (impl_GroupLevels.l0 k l0 (([] : List (S44))) bt332.1 (bt332.1.length : Int) 0) else (some (([] : List (S44)), false)))
set_option maxHeartbeats 8000000 in
set_option maxRecDepth 100000 in
theorem impl_GroupLevels.calls (k : Nat) (A0 : Option Addr) (c0 : Nat) (l0 : List (S63)) (A1 : Option Addr) (c1 : Nat) (l1 : List (List Int)) (r1 : List (S44)) (r2 : Bool) (w : World) (hr0 : Kd.C k63 w A0 l0.length l0) (hc0 : l0.length ≤ c0) (hr1 : Kd.C (Kd.slice 3 (Kd.int .i64)) w A1 l1.length l1) (hc1 : l1.length ≤ c1) (h : impl_GroupLevels.f k l0 l1 = some (r1, r2)) :
  Calls Try.prog 30 #[.slice A0 l0.length c0, .slice A1 l1.length c1] w fun e w' => ∃ v0_ : Value, e = .returned (.tuple #[v0_, .bool r2]) ∧ Kd.R k44 44 w' w.heap.size (fun _ => True) v0_ r1 ∧ Below w.heap.size w w' := by
 have HR0 := Aside0.mk hr0
 have HC0 := Aside0.mk hc0
 clear hr0 hc0
 have HR1 := Aside0.mk hr1
 have HC1 := Aside0.mk hc1
 clear hr1 hc1
 have HB := Aside0.mk (Below.refl w.heap.size w)
 have H : ((impl_GroupsOf.f k l0 l1).bind fun bt332 => (if bt332.2 = true then (impl_GroupLevels.l0 k l0 (([] : List (S44))) bt332.1 (bt332.1.length : Int) 0) else (some (([] : List (S44)), false)))) = some (r1, r2) := h
 clear h
 replace H := Option.bind_eq_some_iff.mp H
 obtain ⟨⟨t332, t333⟩, A30, H⟩ := H
 replace H : (if t333 = true then (impl_GroupLevels.l0 k l0 (([] : List (S44))) t332 (t332.length : Int) 0) else (some (([] : List (S44)), false))) = some (r1, r2) := H
 have A3 := Aside0.mk A30
 clear A30
 by_cases c4 : t333 = true
 ·subst c4
  have H1 : (impl_GroupLevels.l0 k l0 (([] : List (S44))) t332 (t332.length : Int) 0) = some (r1, r2) := by rw [if_pos rfl] at H; exact H
  clear H
  have H := H1
  clear H1
  obtain ⟨y336, hy336⟩ : ∃ y_ : List (S44), y_ = (([] : List (S44))) := ⟨_, rfl⟩
  replace H : (impl_GroupLevels.l0 k l0 y336 t332 (t332.length : Int) 0) = some (r1, r2) := by first | (rw [hy336]; with_reducible exact H) | (have H2_ := (Option.bind_some _ _).symm.trans H; rw [hy336]; with_reducible exact H2_) | (have H2_ := (Option.bind_some _ _).symm.trans H; with_reducible exact H2_) | with_reducible exact H | (rw [hy336]; exact H) | exact H
  have Ny336 := Aside0.mk hy336
  clear hy336
  have H' := Aside0.mk H
  clear H
  go_enter Try.func30, Try.ntmps30
  go_wp2_with (first | ((with_reducible refine gate_callee (f := 37) rfl ?_); refine goesL_ (some 14) rfl rfl Try.func37 (by kernel_rfl) rfl #[.slice A0 l0.length c0, .slice A1 l1.length c1] rfl (by (try simp only [List.map_toArray, List.map_cons, List.map_nil]); first | done | rfl | (simp only [List.length_drop, List.length_take]; rfl)) ?_; (with_reducible refine (impl_GroupsOf.calls k _ _ l0 _ _ l1 t332 true _ ?side1 ?side2 ?side3 ?side4 A3.out).mono ?_); (case side1 => exact xd (HR0.out)); (case side2 => exact HC0.out); (case side3 => exact xd (HR1.out)); (case side4 => exact HC1.out); rintro e w5 ⟨v334, rfl, ho0, hb⟩; refine ⟨_, rfl, ?_⟩; have HO335 := Aside0.mk (Kd.S_lower ho0 (below_size (xs HB.out))); replace HB := xp HB hb; (try clear hb); (try clear hb2); (try clear hk); (try clear hi); (try clear ho0)) | ((with_reducible refine gate_dst (N := 19) rfl ?_); refine Kd.R_lit k44 _ 44 ?hg (N := 19) ?hd (xs := ([] : List (S44))) (inner := []) (ok := fun _ => True) (okp := fun _ => True) ?hr ?hp (fun _ hk => hk) trivial (Below.refl _ _) (Nat.le_refl _) (by simp) ?_; (case hd => rfl); (case hg => rfl); (case hr => first | (go_simp; done) | (go_simp; rfl)); (case hp => exact (Reps.none _ _)); intro v337 w6 ho7 hb hg_ hnew_; clear hg_ hnew_; (first | rw [← Ny336.out] at ho7 | (simp only [Int.reduceToNat] at ho7; rw [← Ny336.out] at ho7)); replace HO335 := Aside0.mk (Kd.S_below (by (with_reducible repeat (first | apply Kd.S_alloc | apply Kd.S_drewN | apply Kd.S_drew)); exact HO335.out) hb); have HO338 := Aside0.mk (Kd.R_lower ho7 (below_size (xs HB.out))); replace HB := xp HB hb; clear hb ho7; obtain ⟨Ao8, co8, eo8⟩ := Kd.S_slice HO335.out; subst eo8))
  go_loopg [8, 22] k (fun kq v8 v22 w' => ∃ (x8_1 : List (S44)) (x22_1 : Int), v22 = .int .i64 x22_1 ∧ Aside0 (impl_GroupLevels.l0 kq l0 x8_1 t332 (t332.length : Int) x22_1 = some (r1, r2)) ∧ Aside0 (kq ≤ k) ∧ Aside0 (Kd.R k44 44 w' w.heap.size (fun _ => True) v8 x8_1) ∧ Aside0 (Kd.S (Kd.slice 3 (Kd.int .i64)) 52 w' w.heap.size (fun _ => True) (.slice Ao8 t332.length co8) t332) ∧ Aside0 (Below w.heap.size w w'))
  case atStart => exact ⟨(y336), (0), (by first | rfl | (simp; done) | (simp [*]; done)), H', ⟨Nat.le_refl _⟩, ⟨xr HO338.out⟩, ⟨by (with_reducible repeat (first | apply Kd.S_alloc | apply Kd.S_drewN | apply Kd.S_drew)); exact HO335.out⟩, ⟨xs HB.out⟩⟩
  case round =>
   clear H'
   try clear c1
   try clear p2
   try clear c3
   try clear c4
   obtain ⟨x8_1, x22_1, rfl, HA, HK1, HO_8, HO_20, HB⟩ := hrel
   cases gk with
   | zero => exact absurd HA.out (by simp [impl_GroupLevels.l0])
   | succ k1 =>
    have H := HA.out
    clear HA
    simp only [impl_GroupLevels.l0] at H
    by_cases c9 : x22_1 < (t332.length : Int)
    ·rw [if_pos c9] at H
     have c9b0 : decide (x22_1 < (t332.length : Int)) = true := decide_eq_true c9
     clear c9
     by_cases c10 : 0 ≤ x22_1
     ·rw [if_pos c10] at H
      have c10b0 : decide (0 ≤ x22_1) = true := decide_eq_true c10
      clear c10
      by_cases c11 : x22_1 < (t332.length : Int)
      ·rw [if_pos c11] at H
       have c11b0 : decide (x22_1 < (t332.length : Int)) = true := decide_eq_true c11
       clear c11
       replace H := Option.bind_eq_some_iff.mp H
       obtain ⟨t340, A120, H⟩ := H
       replace H : ((impl_common.f k1 t340).bind fun bt343 => (if x8_1.length < 8796093022208 then (impl_GroupLevels.l0 k1 l0 (x8_1 ++ [(⟨bt343.1, bt343.2⟩ : S44)]) t332 (t332.length : Int) (wrap64 (x22_1 + 1))) else (none))) = some (r1, r2) := H
       have A12 := Aside0.mk A120
       clear A120
       replace H := Option.bind_eq_some_iff.mp H
       obtain ⟨⟨t343, t344⟩, A130, H⟩ := H
       replace H : (if x8_1.length < 8796093022208 then (impl_GroupLevels.l0 k1 l0 (x8_1 ++ [(⟨t343, t344⟩ : S44)]) t332 (t332.length : Int) (wrap64 (x22_1 + 1))) else (none)) = some (r1, r2) := H
       have A13 := Aside0.mk A130
       clear A130
       by_cases c14 : x8_1.length < 8796093022208
       ·rw [if_pos c14] at H
        have LMc14 := Aside0.mk c14
        clear c14
        obtain ⟨y345, hy345⟩ : ∃ y_ : List (S44), y_ = (x8_1 ++ [(⟨t343, t344⟩ : S44)]) := ⟨_, rfl⟩
        replace H : (impl_GroupLevels.l0 k1 l0 y345 t332 (t332.length : Int) (wrap64 (x22_1 + 1))) = some (r1, r2) := by first | (rw [hy345]; with_reducible exact H) | (have H2_ := (Option.bind_some _ _).symm.trans H; rw [hy345]; with_reducible exact H2_) | (have H2_ := (Option.bind_some _ _).symm.trans H; with_reducible exact H2_) | with_reducible exact H | (rw [hy345]; exact H) | exact H
        have Ny345 := Aside0.mk hy345
        clear hy345
        have H' := Aside0.mk H
        clear H
        have p339 : 0 ≤ (x22_1 : Int) := of_decide_eq_true (by first | (with_reducible assumption) | assumption)
        have q339 : x22_1 < (t332.length : Int) := of_decide_eq_true (by first | (with_reducible assumption) | assumption)
        obtain ⟨ad339, A339_0, c339_0, e339, hx339_0, hl339_0, hi339_0⟩ := at_L4 (Kd.S_reads' HO_20.out).2.2 x22_1 p339 q339
        cases e339
        obtain ⟨ce339, hce339, hMe339, hcc339⟩ := Kd.S_get HO_20.out [] x22_1 p339 (by first | exact q339 | exact of_decide_eq_true (by first | (with_reducible assumption) | assumption) | (have e_ := (Kd.S_reads' HO_20.out).1; omega))
        obtain ⟨ve339_0, rfl, ge339_0⟩ := hMe339
        have hv339_0 := hcc339 0 _ rfl
        rw [Nat.add_zero, show ((Kd.slice 3 (Kd.int .i64))).sz = 1 from rfl, Nat.mul_one] at hv339_0
        replace hv339_0 := Option.some.inj (hv339_0.symm.trans hx339_0)
        rw [hv339_0] at ge339_0
        have HL339_0 := Aside0.mk (show Kd.R (Kd.int .i64) 3 _ _ _ _ (rd_L4 t332 x22_1) from ge339_0)
        clear hv339_0 ge339_0
        clear hcc339 hce339
        have HR339_0 := Aside0.mk hi339_0
        have HC339_0 := Aside0.mk hl339_0
        clear hi339_0 hl339_0
        replace p339 := eq_true p339
        replace q339 := eq_true q339
        go_wp2_with (first | ((with_reducible refine gate_callee (f := 63) rfl ?_); refine goesL_ (some 29) rfl rfl Try.func63 (by kernel_rfl) rfl #[.slice A0 l0.length c0, .slice A339_0 (rd_L4 t332 x22_1).length c339_0] rfl (by (try simp only [List.map_toArray, List.map_cons, List.map_nil]); first | done | rfl | (simp only [List.length_drop, List.length_take]; rfl)) ?_; (with_reducible refine (impl_someOf.calls k1 _ _ l0 _ _ (rd_L4 t332 x22_1) t340 _ ?side1 ?side2 ?side3 ?side4 A12.out).mono ?_); (case side1 => exact xd ((Kd.C_below HR0.out HB.out))); (case side2 => exact HC0.out); (case side3 => repeat (first | exact (by repeat (first | (with_reducible exact HR339_0.out) | (with_reducible refine Kd.C_alloc ?_ _) | (with_reducible refine Kd.C_drewN ?_ _) | (with_reducible refine Kd.C_drew ?_) | exact HR339_0.out)) | (with_reducible refine Kd.C_alloc ?_ _) | (with_reducible refine Kd.C_drewN ?_ _) | (with_reducible refine Kd.C_drew ?_))); (case side4 => exact HC339_0.out); rintro e w15 ⟨v341, rfl, ho0, hb⟩; refine ⟨_, rfl, ?_⟩; replace HO_8 := xq HO_8 hb; replace HO_20 := Aside0.mk (Kd.S_below (by (with_reducible repeat (first | apply Kd.S_alloc | apply Kd.S_drewN | apply Kd.S_drew)); exact HO_20.out) hb); replace HL339_0 := xq HL339_0 hb; have HO342 := Aside0.mk (Kd.R_lower ho0 (below_size (xs HB.out))); replace HR339_0 := Aside0.mk (Kd.C_below (by repeat (first | (with_reducible exact HR339_0.out) | (with_reducible refine Kd.C_alloc ?_ _) | (with_reducible refine Kd.C_drewN ?_ _) | (with_reducible refine Kd.C_drew ?_) | exact HR339_0.out)) hb); replace HB := xp HB hb; (try clear hb); (try clear hb2); (try clear hk); (try clear hi); (try clear ho0); obtain ⟨Ao16, co16, eo16⟩ := Kd.R_slice HO342.out; subst eo16) | ((with_reducible refine gate_callee (f := 56) rfl ?_); refine goesL_ (some 30) rfl rfl Try.func56 (by kernel_rfl) rfl #[.slice Ao16 t340.length co16] rfl (by (try simp only [List.map_toArray, List.map_cons, List.map_nil]); first | done | rfl | (simp only [List.length_drop, List.length_take]; rfl)) ?_; (with_reducible refine (impl_common.calls k1 _ _ t340 t343 t344 _ ?side1 ?side2 A13.out).mono ?_); (case side1 => exact xd ((Kd.R_reads' HO342.out).2.2)); (case side2 => exact (Kd.R_reads' HO342.out).2.1); rintro e w17 ⟨rfl, hb⟩; refine ⟨_, rfl, ?_⟩; replace HO_8 := xq HO_8 hb; replace HO_20 := Aside0.mk (Kd.S_below (by (with_reducible repeat (first | apply Kd.S_alloc | apply Kd.S_drewN | apply Kd.S_drew)); exact HO_20.out) hb); replace HL339_0 := xq HL339_0 hb; replace HO342 := xq HO342 hb; replace HR339_0 := Aside0.mk (Kd.C_below (by repeat (first | (with_reducible exact HR339_0.out) | (with_reducible refine Kd.C_alloc ?_ _) | (with_reducible refine Kd.C_drewN ?_ _) | (with_reducible refine Kd.C_drew ?_) | exact HR339_0.out)) hb); replace HB := xp HB hb; (try clear hb); (try clear hb2); (try clear hk); (try clear hi)) | ((with_reducible refine gate_builtin (b := .append) (xs := #[.tmp 26, .tmp 31]) rfl ?_); at_builtin; refine Kd.R_append k44 (w0 := w) w.heap.size rfl (.tmp 26) (.tmp 31) 24 44 (.agg #[(.int .i64 0), (.int .i64 0)]) 16 rfl Try.underlying24 info44 rfl (by decide) (by omega) u8 x8_1 (⟨t343, t344⟩ : S44) [.int .i64 t343, .int .i64 t344] (fun _ => True) (fun _ => False) rfl rfl ?aP (fun _ hk => hk.elim) ?aF ?aO ?aB ?aS ?aL ?_; (case aP => exact k44_mkM _ _ _ (⟨t343, t344⟩ : S44)); (case aB => exact (xs HB.out)); (case aF => exact (fun _ _ => trivial)); (case aO => exact (xr HO_8.out)); (case aS => exact (below_size (xs HB.out))); (case aL => have := LMc14.out; omega); intro v346 w18 ho hb hg hat; rw [← Ny345.out] at ho; replace HO_20 := Aside0.mk (Kd.S_over' (by (with_reducible repeat (first | apply Kd.S_alloc | apply Kd.S_drewN | apply Kd.S_drew)); exact HO_20.out) (Kd.R_typed (xr HO_8.out)) (by decide) hg); replace HL339_0 := Aside0.mk (Kd.R_over' (xr HL339_0.out) (Kd.R_typed (xr HO_8.out)) (by decide) hg); replace HO342 := Aside0.mk (Kd.R_over' (xr HO342.out) (Kd.R_typed (xr HO_8.out)) (by decide) hg); replace HB := Aside0.mk (hb); have HO347 := Aside0.mk (ho); clear HO_8; clear ho hb hg hat))
        go_roundg k1
        case measure => have := HK1.out; omega
        case rel => exact ⟨(y345), (wrap64 (x22_1 + 1)), (by first | rfl | (simp; done) | (simp [*]; done)), H', ⟨by have := HK1.out; omega⟩, ⟨xr HO347.out⟩, ⟨by (with_reducible repeat (first | apply Kd.S_alloc | apply Kd.S_drewN | apply Kd.S_drew)); exact HO_20.out⟩, ⟨xs HB.out⟩⟩
       ·rw [if_neg c14] at H
        exact absurd H (by simp)
      ·rw [if_neg c11] at H
       exact absurd H (by simp)
     ·rw [if_neg c10] at H
      exact absurd H (by simp)
    ·rw [if_neg c9] at H
     have c9b0 : decide (x22_1 < (t332.length : Int)) = false := decide_eq_false c9
     clear c9
     simp only [Option.some.injEq, Prod.mk.injEq] at H
     obtain ⟨rfl, rfl⟩ := H
     go_wp2
     go_ret2
     exact ⟨_, by first | rfl | (simp [errW_none, errW_some] <;> rfl) | (simp [*, errW_none, errW_some] <;> rfl), by (with_reducible repeat (first | apply Kd.R_alloc | apply Kd.R_drewN | apply Kd.R_drew)); exact HO_8.out, by repeat (first | (with_reducible first | exact HB.out | apply below_alloc | apply pw_below_drewN | apply below_drew1) | exact HB.out)⟩
 ·replace c4 := Bool.eq_false_iff.mpr c4
  subst c4
  have H1 : (some (([] : List (S44)), false)) = some (r1, r2) := by rw [if_neg (show ¬ (false = true) by decide)] at H; exact H
  clear H
  have H := H1
  clear H1
  simp only [Option.some.injEq, Prod.mk.injEq] at H
  obtain ⟨rfl, rfl⟩ := H
  go_enter Try.func30, Try.ntmps30
  go_wp2_with (first | ((with_reducible refine gate_callee (f := 37) rfl ?_); refine goesL_ (some 14) rfl rfl Try.func37 (by kernel_rfl) rfl #[.slice A0 l0.length c0, .slice A1 l1.length c1] rfl (by (try simp only [List.map_toArray, List.map_cons, List.map_nil]); first | done | rfl | (simp only [List.length_drop, List.length_take]; rfl)) ?_; (with_reducible refine (impl_GroupsOf.calls k _ _ l0 _ _ l1 t332 false _ ?side1 ?side2 ?side3 ?side4 A3.out).mono ?_); (case side1 => exact xd (HR0.out)); (case side2 => exact HC0.out); (case side3 => exact xd (HR1.out)); (case side4 => exact HC1.out); rintro e w19 ⟨v334, rfl, ho0, hb⟩; refine ⟨_, rfl, ?_⟩; have HO335 := Aside0.mk (Kd.S_lower ho0 (below_size (xs HB.out))); replace HB := xp HB hb; (try clear hb); (try clear hb2); (try clear hk); (try clear hi); (try clear ho0)))
  go_ret2
  exact ⟨_, by first | rfl | (simp [errW_none, errW_some] <;> rfl) | (simp [*, errW_none, errW_some] <;> rfl), by first | exact Kd.R_nil _ _ _ _ _ | exact Kd.N_nil _ _ _ _ _ | exact Kd.V_nil _ _ _ _ _ | exact Kd.Q_nil _ _ _ _ _ | exact Kd.S_nil _ _ _ _ _, by repeat (first | (with_reducible first | exact HB.out | apply below_alloc | apply pw_below_drewN | apply below_drew1) | exact HB.out)⟩

/-! ### laws_markIntS: function 42 -/
def laws_markIntS.l0 : Nat → List Int → Int → Int → Option (Int × List Int)
  | 0, _, _, _ => none
  | k + 1, x0, x1, x5 => if x5 < (x0.length : Int) then (if 0 ≤ x5 then (laws_markIntS.l0 k (x0.set (x5 : Int).toNat x1) (wrap64 (x1 + 1)) (wrap64 (x5 + 1))) else (none)) else (some (x1, x0))
def laws_markIntS.f (k : Nat) (l0 : List Int) (a1 : Int) : Option (Int × List Int) := laws_markIntS.l0 k l0 a1 0
set_option maxHeartbeats 8000000 in
set_option maxRecDepth 100000 in
theorem laws_markIntS.calls (k : Nat) (P0_ : Nat → Prop) (u9000_ : Value) (l0 : List Int) (a1 : Int) (r1 : Int) (r2 : List Int) (w0 w : World) (hB : Below w0.heap.size w0 w) (ho0 : Kd.R (Kd.int .i64) 3 w w0.heap.size P0_ u9000_ l0) (h : laws_markIntS.f k l0 a1 = some (r1, r2)) :
  Calls Try.prog 42 #[u9000_, .int .i64 a1] w fun e w' => e = .returned (.int .i64 r1) ∧ Kd.R (Kd.int .i64) 3 w' w0.heap.size (fun k_ => (P0_ k_ ∨ w.heap.size ≤ k_)) u9000_ r2 ∧ Below w0.heap.size w0 w' ∧ Kept w w' (fun k_ => P0_ k_) := by
 have HO0 := Aside0.mk (show Kd.R (Kd.int .i64) 3 w w0.heap.size (fun k_ => (P0_ k_ ∨ w.heap.size ≤ k_)) u9000_ l0 from Kd.R_mono ho0 (fun k_ hk => (.inl hk)))
 have HK := Aside0.mk (Kept.refl w (fun k_ => P0_ k_))
 have HW0 := Aside0.mk hB.size
 have HB := Aside0.mk hB
 clear hB
 have H : (laws_markIntS.l0 k l0 a1 0) = some (r1, r2) := h
 clear h
 have H' := Aside0.mk H
 clear H
 go_enter Try.func42, Try.ntmps42
 go_wp2
 go_loopg [1, 5] k (fun kq v1 v5 w' => ∃ (x0_1 : List Int) (x1_1 : Int) (x5_1 : Int), v1 = .int .i64 x1_1 ∧ v5 = .int .i64 x5_1 ∧ Aside0 (laws_markIntS.l0 kq x0_1 x1_1 x5_1 = some (r1, r2)) ∧ Aside0 (kq ≤ k) ∧ Aside0 (Kd.R (Kd.int .i64) 3 w' w0.heap.size (fun k_ => (P0_ k_ ∨ w.heap.size ≤ k_)) u9000_ x0_1) ∧ Aside0 (Kept w w' (fun k_ => P0_ k_)) ∧ Aside0 (Below w0.heap.size w0 w'))
 case atStart => exact ⟨(l0), (a1), (0), (by first | rfl | (simp; done) | (simp [*]; done)), (by first | rfl | (simp; done) | (simp [*]; done)), H', ⟨Nat.le_refl _⟩, ⟨xr HO0.out⟩, ⟨by repeat (first | (with_reducible first | exact HK.out | apply Kept.alloc | apply Kept.drewN | apply Kept.drew) | exact HK.out)⟩, ⟨xs HB.out⟩⟩
 case round =>
  clear H'
  try clear p2
  obtain ⟨x0_1, x1_1, x5_1, rfl, rfl, HA, HK1, HO_0, HK, HB⟩ := hrel
  cases gk with
  | zero => exact absurd HA.out (by simp [laws_markIntS.l0])
  | succ k1 =>
   have H := HA.out
   clear HA
   simp only [laws_markIntS.l0] at H
   by_cases c3 : x5_1 < (x0_1.length : Int)
   ·rw [if_pos c3] at H
    have c3b0 : decide (x5_1 < (x0_1.length : Int)) = true := decide_eq_true c3
    clear c3
    by_cases c4 : 0 ≤ x5_1
    ·rw [if_pos c4] at H
     have c4b0 : decide (0 ≤ x5_1) = true := decide_eq_true c4
     clear c4
     obtain ⟨y348, hy348⟩ : ∃ y_ : List Int, y_ = (x0_1.set (x5_1 : Int).toNat x1_1) := ⟨_, rfl⟩
     replace H : (laws_markIntS.l0 k1 y348 (wrap64 (x1_1 + 1)) (wrap64 (x5_1 + 1))) = some (r1, r2) := by first | (rw [hy348]; with_reducible exact H) | (have H2_ := (Option.bind_some _ _).symm.trans H; rw [hy348]; with_reducible exact H2_) | (have H2_ := (Option.bind_some _ _).symm.trans H; with_reducible exact H2_) | with_reducible exact H | (rw [hy348]; exact H) | exact H
     have Ny348 := Aside0.mk hy348
     clear hy348
     have H' := Aside0.mk H
     clear H
     obtain ⟨Ao6, co6, eo6⟩ := Kd.R_slice HO_0.out
     subst eo6
     have p5 : 0 ≤ (x5_1 : Int) := of_decide_eq_true (by first | (with_reducible assumption) | assumption)
     have q5 : (x5_1 : Int) < ((x0_1.length : Int) : Int) := of_decide_eq_true (by first | (with_reducible assumption) | assumption)
     obtain ⟨go5, co5, eo5, gb5, gl5, cl5, HG5⟩ := Kd.R_form HO_0.out (by omega)
     (first | cases eo5 | (injection eo5 with ea_ en_ ec_; (first | subst ea_ | (injection ea_ with ea_; subst ea_)); subst ec_; clear en_))
     have GB5 := Aside0.mk gb5
     have GG5 := Aside0.mk HG5
     clear gb5 gl5 HG5
     have HMgo5 := Aside0.mk (show (P0_ go5 ∨ w.heap.size ≤ go5) from (HO_0.out.1 _ rfl))
     obtain ⟨hx5_0, hf5_0⟩ := Kd.R_celln 0 HO_0.out (x5_1 : Int) p5 q5
     replace p5 := eq_true p5
     replace q5 := eq_true q5
     have HP7 := Kd.R_putg HO_0.out (x5_1 : Int) x1_1
     go_wp2_with (first | ((with_reducible refine gate_store (t := 3) (p := 15) rfl ?_); refine store_event (t := 3) (p := 15) (v := ?vo_w8) (w1 := (wr.setCell ⟨go5, (x5_1 : Int).toNat, none⟩ (.int .i64 x1_1))) ?hg ?ho ?hn ?hr ?_; (case ho => rfl); (case hg => rfl); (case hn => rfl); (case hr => first | (go_simp; done) | (go_simp; rfl)); intro w8 hw; have hg : wr.grownBy w8 (some go5) := (by rw [hw]; exact HP7.2); have hp_ : Kd.R (Kd.int .i64) 3 w8 w0.heap.size (fun k_ => (P0_ k_ ∨ w.heap.size ≤ k_)) (.slice (some ⟨go5, 0, none⟩) x0_1.length co6) y348 := (by rw [hw, Ny348.out]; exact HP7.1); clear HP7; replace HB := Aside0.mk ((by rw [hw]; exact below_set (HB.out) GB5.out : Below w0.heap.size w0 w8)); replace HK := Aside0.mk (Kept.of_grown (S := (fun k_ => P0_ k_)) hg (by repeat (first | (with_reducible first | exact HK.out | apply Kept.alloc | apply Kept.drewN | apply Kept.drew) | exact HK.out)) (fun k_ e_ => (HO_0.out.1 k_ e_))); replace HO_0 := Aside0.mk (hp_); clear hg hw hp_))
     go_roundg k1
     case measure => have := HK1.out; omega
     case rel => exact ⟨(y348), (wrap64 (x1_1 + 1)), (wrap64 (x5_1 + 1)), (by first | rfl | (simp; done) | (simp [*]; done)), (by first | rfl | (simp; done) | (simp [*]; done)), H', ⟨by have := HK1.out; omega⟩, ⟨xr HO_0.out⟩, ⟨by repeat (first | (with_reducible first | exact HK.out | apply Kept.alloc | apply Kept.drewN | apply Kept.drew) | exact HK.out)⟩, ⟨xs HB.out⟩⟩
    ·rw [if_neg c4] at H
     exact absurd H (by simp)
   ·rw [if_neg c3] at H
    have c3b0 : decide (x5_1 < (x0_1.length : Int)) = false := decide_eq_false c3
    clear c3
    simp only [Option.some.injEq, Prod.mk.injEq] at H
    obtain ⟨rfl, rfl⟩ := H
    obtain ⟨Ao9, co9, eo9⟩ := Kd.R_slice HO_0.out
    subst eo9
    go_wp2
    go_ret
    exact ⟨by first | rfl | (simp [errW_none, errW_some] <;> rfl) | (simp [*, errW_none, errW_some] <;> rfl), by (with_reducible repeat (first | apply Kd.R_alloc | apply Kd.R_drewN | apply Kd.R_drew)); exact HO_0.out, by repeat (first | (with_reducible first | exact HB.out | apply below_alloc | apply pw_below_drewN | apply below_drew1) | exact HB.out), by repeat (first | (with_reducible first | exact HK.out | apply Kept.alloc | apply Kept.drewN | apply Kept.drew) | exact HK.out)⟩

/-! ### laws_markIntSS: function 31 -/
/-- element i of rows that lie apart, to be written -/
theorem rows_lend {W : World} {e g n cap base : Nat} {ok : Nat → Prop} {xs : List (List Int)} (h : Kd.S (Kd.slice 3 (Kd.int .i64)) e W base ok (.slice (some ⟨g, 0, none⟩) n cap) xs) (i : Int) (h0 : 0 ≤ i) (h1 : i < n) :
  ∃ v : Value, W.cell? ⟨g, i.toNat, none⟩ = some v ∧ Kd.R (Kd.int .i64) 3 W base (fun k => some k = v.ownBlock) v (rd_L4 xs i) ∧ (∀ k, v.ownBlock = some k → ok k ∧ k ≠ g) ∧
   ∀ (w1 : World) (x' : List Int) (P : Nat → Prop), Kept W w1 (fun k => some k = v.ownBlock) → Kd.R (Kd.int .i64) 3 w1 base P v x' → Kd.S (Kd.slice 3 (Kd.int .i64)) e w1 base ok (.slice (some ⟨g, 0, none⟩) n cap) (xs.set i.toNat x') := by
 obtain ⟨oki, c, hcl, hM, hcc, hoki, hH⟩ := Kd.S_lend h ([] : List Int) i h0 h1
 obtain ⟨v, rfl, hR⟩ := hM
 refine ⟨v, ?_, Kd.R_tight rfl hR, fun k hk => hoki k (hR.1 k hk), fun w1 x' P hk hR' => ?_⟩
 ·have := hcc 0 v rfl
  simpa [Kd.slice] using this
 ·exact Kd.H_back (okp := fun k => some k = v.ownBlock) (Kd.H_kept hH hk (fun k _ hn he => hn (hR.1 k he.symm))) ⟨v, rfl, Kd.R_tight rfl hR'⟩ (fun k hk => hR.1 k hk.symm)
def laws_markIntSS.l0 : Nat → List (List Int) → Int → Int → Option (Int × List (List Int))
  | 0, _, _, _ => none
  | k + 1, x0, x1, x5 => if x5 < (x0.length : Int) then (if 0 ≤ x5 then ((laws_markIntS.f k (rd_L4 x0 x5) x1).bind fun bt => laws_markIntSS.l0 k (x0.set x5.toNat bt.2) bt.1 (wrap64 (x5 + 1))) else none) else some (x1, x0)
def laws_markIntSS.f (k : Nat) (l0 : List (List Int)) (a1 : Int) : Option (Int × List (List Int)) := laws_markIntSS.l0 k l0 a1 0
set_option maxHeartbeats 8000000 in
set_option maxRecDepth 100000 in
theorem laws_markIntSS.calls (k : Nat) (ok : Nat → Prop) (e : Nat) (u : Value) (l0 : List (List Int)) (a1 : Int) (r1 : Int) (r2 : List (List Int)) (w0 w : World) (hB : Below w0.heap.size w0 w) (ho0 : Kd.S (Kd.slice 3 (Kd.int .i64)) e w w0.heap.size ok u l0) (h : laws_markIntSS.f k l0 a1 = some (r1, r2)) :
  Calls Try.prog 31 #[u, .int .i64 a1] w fun e_ w' => e_ = .returned (.int .i64 r1) ∧ Kd.S (Kd.slice 3 (Kd.int .i64)) e w' w0.heap.size ok u r2 ∧ Below w0.heap.size w0 w' ∧ Kept w w' ok := by
 have HO := Aside0.mk ho0
 have HB := Aside0.mk hB
 have HK := Aside0.mk (Kept.refl w ok)
 have H' := Aside0.mk (show laws_markIntSS.l0 k l0 a1 0 = some (r1, r2) from h)
 clear ho0 hB h
 go_enter Try.func31, Try.ntmps31
 go_wp2
 go_loopg [1, 5] k (fun kq v1 v5 w' => ∃ (x0 : List (List Int)) (x1 : Int) (x5 : Int), v1 = .int .i64 x1 ∧ v5 = .int .i64 x5 ∧ Aside0 (laws_markIntSS.l0 kq x0 x1 x5 = some (r1, r2)) ∧ Aside0 (kq ≤ k) ∧ Aside0 (Kd.S (Kd.slice 3 (Kd.int .i64)) e w' w0.heap.size ok u x0) ∧ Aside0 (Below w0.heap.size w0 w') ∧ Aside0 (Kept w w' ok))
 case atStart => exact ⟨l0, a1, 0, rfl, rfl, H', ⟨Nat.le_refl _⟩, HO, HB, HK⟩
 case round =>
  clear H' HO HB HK
  obtain ⟨x0, x1, x5, rfl, rfl, HA, HK1, HO, HB, HK⟩ := hrel
  cases gk with
  | zero => exact absurd HA.out (by simp [laws_markIntSS.l0])
  | succ k1 =>
   have H := HA.out
   clear HA
   simp only [laws_markIntSS.l0] at H
   by_cases c3 : x5 < (x0.length : Int)
   ·rw [if_pos c3] at H
    have c3b0 : decide (x5 < (x0.length : Int)) = true := decide_eq_true c3
    by_cases c4 : 0 ≤ x5
    ·rw [if_pos c4] at H
     have c4b0 : decide (0 ≤ x5) = true := decide_eq_true c4
     obtain ⟨⟨t1, t2⟩, A5, H⟩ := Option.bind_eq_some_iff.mp H
     dsimp only at H
     have A5 := Aside0.mk A5
     have H' := Aside0.mk H
     clear H
     obtain ⟨g, cap, rfl, hgb, hgl, cells, hh⟩ := Kd.S_form HO.out (by omega)
     obtain ⟨v, hx, hR, hv, hback⟩ := rows_lend HO.out x5 c4 c3
     obtain ⟨Ai, ci, ei⟩ := Kd.R_slice hR
     subst ei
     have HL := Aside0.mk c3
     have HP := Aside0.mk c4
     have q1 := eq_true c4
     have q2 := eq_true c3
     have HR := Aside0.mk hR
     have HV := Aside0.mk hv
     have HBK := Aside0.mk hback
     clear c3 c4 hR hv hback hh H
     go_wp2_with (go_at_call 42; refine (laws_markIntS.calls k1 _ _ (rd_L4 x0 x5) x1 t1 t2 w0 _ HB.out HR.out A5.out).mono ?_; rintro e2 w2 ⟨rfl, hR2, hB2, hK2⟩; have HB2 := Aside0.mk hB2; have HK2 := Aside0.mk (HK.out.then_ hK2 (fun k hk => .inl (HV.out k hk.symm).1)); have HO2 := Aside0.mk (HBK.out _ _ _ hK2 hR2); clear hR2 hB2 hK2)
     go_roundg k1
     case measure => have := HK1.out; omega
     case rel => exact ⟨_, t1, wrap64 (x5 + 1), rfl, rfl, H', ⟨by have := HK1.out; omega⟩, HO2, HB2, HK2⟩
    ·rw [if_neg c4] at H
     exact absurd H (by simp)
   ·rw [if_neg c3] at H
    have c3b0 : decide (x5 < (x0.length : Int)) = false := decide_eq_false c3
    clear c3
    simp only [Option.some.injEq, Prod.mk.injEq] at H
    obtain ⟨rfl, rfl⟩ := H
    obtain ⟨Ao9, co9, eo9⟩ := Kd.S_slice HO.out
    subst eo9
    go_wp2
    go_ret
    exact ⟨by first | rfl | simp, HO.out, HB.out, HK.out⟩

/-! ### laws_FnExactGroupLevels: function 6 -/
/-- the blocks from lo on, below hi -/
def Iv (lo hi : Nat) : Nat → Prop := fun k => lo ≤ k ∧ k < hi
theorem Iv.apart {a b c d k : Nat} (h1 : Iv a b k) (h2 : Iv c d k) (h : b ≤ c ∨ d ≤ a) : False := by
 obtain ⟨p, q⟩ := h1
 obtain ⟨r, s⟩ := h2
 omega
theorem R_ivl {α : Type} {d : Kd α} {e b0 : Nat} {W W1 : World} {ok : Nat → Prop} {v : Value} {xs : List α} (h : d.R e W1 W.heap.size ok v xs) (hb : b0 ≤ W.heap.size) : d.R e W1 b0 (Iv W.heap.size W1.heap.size) v xs := Kd.R_lower (Kd.R_mono (Kd.R_bound h) (fun k hk => ⟨hk.2.1, hk.2.2.1⟩)) hb
theorem S_ivl {α : Type} {d : Kd α} {e b0 : Nat} {W W1 : World} {ok : Nat → Prop} {v : Value} {xs : List α} (h : Kd.S d e W1 W.heap.size ok v xs) (hb : b0 ≤ W.heap.size) : Kd.S d e W1 b0 (Iv W.heap.size W1.heap.size) v xs := Kd.S_lower (Kd.S_mono (Kd.S_bound h) (fun k hk => ⟨hk.2.1, hk.2.2.1⟩)) hb
theorem calls_len {P : Program} {f : FuncId} {A : Option Addr} {n n1 c : Nat} {x : Value} {w : World} {Q : Ending → World → Prop} (h : n = n1) (hc : Calls P f #[.slice A n1 c, x] w Q) : Calls P f #[.slice A n c, x] w Q := by rw [h]; exact hc
theorem drawn_below {w w' : World} (h : Drawn0 w w') : Below w.heap.size w w' := by
 obtain ⟨m, rfl⟩ := h
 exact pw_below_drewN (Below.refl _ _) m
def laws_FnExactGroupLevels.f (k : Nat) (l0 : List (S66)) (l1 : List (List Int)) : Option Bool := (laws_szTankS.f l0 1048576).bind fun z0 => if z0 < 0 then some true else (laws_szIntSS.f k l1 z0).bind fun z1 => if z1 < 0 then some true else (laws_toTankS.f k l0).bind fun x0 => (laws_toIntSS.f k l1).bind fun x1 => (spec_GroupLevels.f k x0 x1).bind fun wr => (impl_GroupLevels.f k x0 x1).bind fun gr => (laws_eqRatioS.f k gr.1 wr.1).bind fun e => if e = true ∧ gr.2 = wr.2 then (laws_eqTankS.f k x0 x0).bind fun e0 => if e0 = true then (laws_eqIntSS.f k x1 x1).bind fun e1 => if e1 = true then (laws_markTankS.f k x0 1).bind fun m0 => (laws_markIntSS.f k x1 m0.1).bind fun m1 => if m1.1 < 0 then some false else (laws_markRatioS.f k gr.1 1).bind fun mr => (laws_heldRatioS.f k mr.2 1).bind fun q => if q < 0 then some false else if q = mr.1 then some true else some false else some false else some false else some false
set_option maxHeartbeats 8000000 in
set_option maxRecDepth 100000 in
theorem laws_FnExactGroupLevels.main (k : Nat) (A0 : Option Addr) (c0 : Nat) (l0 : List (S66)) (A1 : Option Addr) (c1 : Nat) (l1 : List (List Int)) (z0 : Int) (x0 : List (S63)) (n0 : Int) (y0 : List (S63)) (z1 : Int) (x1 : List (List Int)) (n1 : Int) (y1 : List (List Int)) (wl gl gl' : List (S44)) (wb : Bool) (m3 : Int) (w : World) (hr0 : Kd.C k66 w A0 l0.length l0) (hc0 : l0.length ≤ c0) (hr1 : Kd.C (Kd.slice 3 (Kd.int .i64)) w A1 l1.length l1) (hc1 : l1.length ≤ c1) (A_sz0 : laws_szTankS.f l0 1048576 = some z0) (hz0 : ¬ z0 < 0) (A_sz1 : laws_szIntSS.f k l1 z0 = some z1) (hz1 : ¬ z1 < 0) (A_to0 : laws_toTankS.f k l0 = some x0) (A_to1 : laws_toIntSS.f k l1 = some x1) (A_spec : spec_GroupLevels.f k x0 x1 = some (wl, wb)) (A_impl : impl_GroupLevels.f k x0 x1 = some (gl, wb)) (A_eqR : laws_eqRatioS.f k gl wl = some true) (A_eq0 : laws_eqTankS.f k x0 x0 = some true) (A_eq1 : laws_eqIntSS.f k x1 x1 = some true) (A_mark0 : laws_markTankS.f k x0 1 = some (n0, y0)) (A_mark1 : laws_markIntSS.f k x1 n0 = some (n1, y1)) (hm : ¬ n1 < 0) (A_markR : laws_markRatioS.f k gl 1 = some (m3, gl')) (A_held : laws_heldRatioS.f k gl' 1 = some m3) (hq : ¬ m3 < 0) :
  Calls Try.prog 6 #[.slice A0 l0.length c0, .slice A1 l1.length c1] w fun e w' => e = .returned (.bool true) ∧ Below w.heap.size w w' := by
 have HR0 := Aside0.mk hr0
 have HC0 := Aside0.mk hc0
 have HR1 := Aside0.mk hr1
 have HC1 := Aside0.mk hc1
 have HB := Aside0.mk (Below.refl w.heap.size w)
 have bz0 : decide (z0 < 0) = false := decide_eq_false hz0
 have bz1 : decide (z1 < 0) = false := decide_eq_false hz1
 have b2 : decide (n1 < 0) = false := decide_eq_false hm
 have b3 : decide (m3 < 0) = false := decide_eq_false hq
 have b4 : (wb != wb) = false := by simp
 have b5 : (m3 != m3) = false := by simp
 replace A_sz0 := Aside0.mk A_sz0
 replace A_sz1 := Aside0.mk A_sz1
 replace A_to0 := Aside0.mk A_to0
 replace A_to1 := Aside0.mk A_to1
 replace A_spec := Aside0.mk A_spec
 replace A_impl := Aside0.mk A_impl
 replace A_eqR := Aside0.mk A_eqR
 replace A_eq0 := Aside0.mk A_eq0
 replace A_eq1 := Aside0.mk A_eq1
 replace A_mark0 := Aside0.mk A_mark0
 replace A_mark1 := Aside0.mk A_mark1
 replace A_markR := Aside0.mk A_markR
 replace A_held := Aside0.mk A_held
 clear hr0 hc0 hr1 hc1 hz0 hz1 hm hq
 go_enter Try.func6, Try.ntmps6
 go_upto_region 5 with (first | (go_at_call 13; refine (laws_szTankS.calls A0 c0 l0 1048576 z0 _ (Kd.C_below HR0.out HB.out) HC0.out A_sz0.out).mono ?_; rintro e_ w1_ ⟨rfl, hd⟩; have hb := drawn_below hd; clear hd; have HZ1 := Aside0.mk hb.size; replace HB := Aside0.mk (below_then HB.out HB.out.size hb); clear hb))
 go_upto_region 8 with (first | (go_at_call 22; refine (laws_szIntSS.calls k A1 c1 l1 z0 z1 _ (Kd.C_below HR1.out HB.out) HC1.out A_sz1.out).mono ?_; rintro e_ w2_ ⟨rfl, hd⟩; have hb := drawn_below hd; clear hd; have HZ2 := Aside0.mk hb.size; replace HB := Aside0.mk (below_then HB.out HB.out.size hb); clear hb))
 go_upto_region 9 with (first | (go_at_call 15; refine (laws_toTankS.calls k A0 c0 l0 x0 _ (Kd.C_below HR0.out HB.out) HC0.out A_to0.out).mono ?_; rintro e_ w3_ ⟨v_X0_1, rfl, ho, hb⟩; obtain ⟨A_X0_1, c_X0_1, rfl⟩ := Kd.R_slice ho; have F_X0_1 := Aside0.mk (R_ivl ho HB.out.size); clear ho; have HZ3 := Aside0.mk hb.size; replace HB := Aside0.mk (below_then HB.out HB.out.size hb); clear hb) | (go_at_call 24; refine (laws_toIntSS.calls k A1 c1 l1 x1 _ (Kd.C_below HR1.out HB.out) HC1.out A_to1.out).mono ?_; rintro e_ w4_ ⟨v_X1_1, rfl, ho, hb⟩; replace F_X0_1 := Aside0.mk (Kd.R_below F_X0_1.out hb); obtain ⟨A_X1_1, c_X1_1, rfl⟩ := Kd.S_slice ho; have F_X1_1 := Aside0.mk (S_ivl ho HB.out.size); clear ho; have HZ4 := Aside0.mk hb.size; replace HB := Aside0.mk (below_then HB.out HB.out.size hb); clear hb) | (go_at_call 29; refine (spec_GroupLevels.calls k _ _ x0 _ _ x1 wl wb _ ((Kd.R_reads' F_X0_1.out).2.2) ((Kd.R_reads' F_X0_1.out).2.1) ((Kd.S_reads' F_X1_1.out).2.2) ((Kd.S_reads' F_X1_1.out).2.1) A_spec.out).mono ?_; rintro e_ w5_ ⟨v_W1, rfl, ho, hb⟩; replace F_X0_1 := Aside0.mk (Kd.R_below F_X0_1.out hb); replace F_X1_1 := Aside0.mk (Kd.S_below F_X1_1.out hb); obtain ⟨A_W1, c_W1, rfl⟩ := Kd.R_slice ho; have F_W1 := Aside0.mk (R_ivl ho HB.out.size); clear ho; have HZ5 := Aside0.mk hb.size; replace HB := Aside0.mk (below_then HB.out HB.out.size hb); clear hb; clear F_X0_1 F_X1_1))
 go_upto_region 10 with (first | (go_at_call 15; refine (laws_toTankS.calls k A0 c0 l0 x0 _ (Kd.C_below HR0.out HB.out) HC0.out A_to0.out).mono ?_; rintro e_ w6_ ⟨v_X0_2, rfl, ho, hb⟩; replace F_W1 := Aside0.mk (Kd.R_below F_W1.out hb); obtain ⟨A_X0_2, c_X0_2, rfl⟩ := Kd.R_slice ho; have F_X0_2 := Aside0.mk (R_ivl ho HB.out.size); clear ho; have HZ6 := Aside0.mk hb.size; replace HB := Aside0.mk (below_then HB.out HB.out.size hb); clear hb))
 go_upto_region 11 with (first | (go_at_call 24; refine (laws_toIntSS.calls k A1 c1 l1 x1 _ (Kd.C_below HR1.out HB.out) HC1.out A_to1.out).mono ?_; rintro e_ w7_ ⟨v_X1_2, rfl, ho, hb⟩; replace F_W1 := Aside0.mk (Kd.R_below F_W1.out hb); replace F_X0_2 := Aside0.mk (Kd.R_below F_X0_2.out hb); obtain ⟨A_X1_2, c_X1_2, rfl⟩ := Kd.S_slice ho; have F_X1_2 := Aside0.mk (S_ivl ho HB.out.size); clear ho; have HZ7 := Aside0.mk hb.size; replace HB := Aside0.mk (below_then HB.out HB.out.size hb); clear hb))
 go_upto_region 12 with (first | (go_at_call 30; refine (impl_GroupLevels.calls k _ _ x0 _ _ x1 gl wb _ ((Kd.R_reads' F_X0_2.out).2.2) ((Kd.R_reads' F_X0_2.out).2.1) ((Kd.S_reads' F_X1_2.out).2.2) ((Kd.S_reads' F_X1_2.out).2.1) A_impl.out).mono ?_; rintro e_ w8_ ⟨v_G, rfl, ho, hb⟩; replace F_W1 := Aside0.mk (Kd.R_below F_W1.out hb); replace F_X0_2 := Aside0.mk (Kd.R_below F_X0_2.out hb); replace F_X1_2 := Aside0.mk (Kd.S_below F_X1_2.out hb); obtain ⟨A_G, c_G, rfl⟩ := Kd.R_slice ho; have F_G := Aside0.mk (R_ivl ho HB.out.size); clear ho; have HZ8 := Aside0.mk hb.size; replace HB := Aside0.mk (below_then HB.out HB.out.size hb); clear hb))
 go_upto_region 14 with (first | (go_at_call 17; refine (laws_eqRatioS.calls k _ _ gl _ _ wl true _ ((Kd.R_reads' F_G.out).2.2) ((Kd.R_reads' F_G.out).2.1) ((Kd.R_reads' F_W1.out).2.2) ((Kd.R_reads' F_W1.out).2.1) A_eqR.out).mono ?_; rintro e_ w9_ ⟨rfl, hb⟩; replace F_W1 := Aside0.mk (Kd.R_below F_W1.out hb); replace F_X0_2 := Aside0.mk (Kd.R_below F_X0_2.out hb); replace F_X1_2 := Aside0.mk (Kd.S_below F_X1_2.out hb); replace F_G := Aside0.mk (Kd.R_below F_G.out hb); have HZ9 := Aside0.mk hb.size; replace HB := Aside0.mk (below_then HB.out HB.out.size hb); clear hb))
 go_upto_region 16 with (first | (go_at_call 15; refine (laws_toTankS.calls k A0 c0 l0 x0 _ (Kd.C_below HR0.out HB.out) HC0.out A_to0.out).mono ?_; rintro e_ w10_ ⟨v_X0_3, rfl, ho, hb⟩; replace F_W1 := Aside0.mk (Kd.R_below F_W1.out hb); replace F_X0_2 := Aside0.mk (Kd.R_below F_X0_2.out hb); replace F_X1_2 := Aside0.mk (Kd.S_below F_X1_2.out hb); replace F_G := Aside0.mk (Kd.R_below F_G.out hb); obtain ⟨A_X0_3, c_X0_3, rfl⟩ := Kd.R_slice ho; have F_X0_3 := Aside0.mk (R_ivl ho HB.out.size); clear ho; have HZ10 := Aside0.mk hb.size; replace HB := Aside0.mk (below_then HB.out HB.out.size hb); clear hb) | (go_at_call 18; refine (laws_eqTankS.calls k _ _ x0 _ _ x0 true _ ((Kd.R_reads' F_X0_2.out).2.2) ((Kd.R_reads' F_X0_2.out).2.1) ((Kd.R_reads' F_X0_3.out).2.2) ((Kd.R_reads' F_X0_3.out).2.1) A_eq0.out).mono ?_; rintro e_ w11_ ⟨rfl, hb⟩; replace F_W1 := Aside0.mk (Kd.R_below F_W1.out hb); replace F_X0_2 := Aside0.mk (Kd.R_below F_X0_2.out hb); replace F_X1_2 := Aside0.mk (Kd.S_below F_X1_2.out hb); replace F_G := Aside0.mk (Kd.R_below F_G.out hb); replace F_X0_3 := Aside0.mk (Kd.R_below F_X0_3.out hb); have HZ11 := Aside0.mk hb.size; replace HB := Aside0.mk (below_then HB.out HB.out.size hb); clear hb; clear F_X0_3))
 go_upto_region 19 with (first | (go_at_call 24; refine (laws_toIntSS.calls k A1 c1 l1 x1 _ (Kd.C_below HR1.out HB.out) HC1.out A_to1.out).mono ?_; rintro e_ w12_ ⟨v_X1_3, rfl, ho, hb⟩; replace F_W1 := Aside0.mk (Kd.R_below F_W1.out hb); replace F_X0_2 := Aside0.mk (Kd.R_below F_X0_2.out hb); replace F_X1_2 := Aside0.mk (Kd.S_below F_X1_2.out hb); replace F_G := Aside0.mk (Kd.R_below F_G.out hb); obtain ⟨A_X1_3, c_X1_3, rfl⟩ := Kd.S_slice ho; have F_X1_3 := Aside0.mk (S_ivl ho HB.out.size); clear ho; have HZ12 := Aside0.mk hb.size; replace HB := Aside0.mk (below_then HB.out HB.out.size hb); clear hb) | (go_at_call 26; refine (laws_eqIntSS.calls k _ _ x1 _ _ x1 true _ ((Kd.S_reads' F_X1_2.out).2.2) ((Kd.S_reads' F_X1_2.out).2.1) ((Kd.S_reads' F_X1_3.out).2.2) ((Kd.S_reads' F_X1_3.out).2.1) A_eq1.out).mono ?_; rintro e_ w13_ ⟨rfl, hd⟩; have hb := drawn_below hd; clear hd; replace F_W1 := Aside0.mk (Kd.R_below F_W1.out hb); replace F_X0_2 := Aside0.mk (Kd.R_below F_X0_2.out hb); replace F_X1_2 := Aside0.mk (Kd.S_below F_X1_2.out hb); replace F_G := Aside0.mk (Kd.R_below F_G.out hb); replace F_X1_3 := Aside0.mk (Kd.S_below F_X1_3.out hb); have HZ13 := Aside0.mk hb.size; replace HB := Aside0.mk (below_then HB.out HB.out.size hb); clear hb; clear F_X1_3))
 go_upto_region 20 with (first | (go_at_call 19; refine (laws_markTankS.calls k (Iv w5_.heap.size w6_.heap.size) _ x0 1 n0 y0 w _ HB.out F_X0_2.out A_mark0.out).mono ?_; rintro e_ w14_ ⟨rfl, ho, hB, hK⟩; have HZ14 := Aside0.mk hK.1; replace F_W1 := Aside0.mk (Kd.R_kept F_W1.out hK (fun k_ h1_ h2_ => h1_.apart h2_ (by have z1_ := HZ1.out; have z2_ := HZ2.out; have z3_ := HZ3.out; have z4_ := HZ4.out; have z5_ := HZ5.out; have z6_ := HZ6.out; have z7_ := HZ7.out; have z8_ := HZ8.out; have z9_ := HZ9.out; have z10_ := HZ10.out; have z11_ := HZ11.out; have z12_ := HZ12.out; have z13_ := HZ13.out; have z14_ := HZ14.out; omega))); replace F_X1_2 := Aside0.mk (Kd.S_kept F_X1_2.out hK (fun k_ h1_ h2_ => h1_.apart h2_ (by have z1_ := HZ1.out; have z2_ := HZ2.out; have z3_ := HZ3.out; have z4_ := HZ4.out; have z5_ := HZ5.out; have z6_ := HZ6.out; have z7_ := HZ7.out; have z8_ := HZ8.out; have z9_ := HZ9.out; have z10_ := HZ10.out; have z11_ := HZ11.out; have z12_ := HZ12.out; have z13_ := HZ13.out; have z14_ := HZ14.out; omega))); replace F_G := Aside0.mk (Kd.R_kept F_G.out hK (fun k_ h1_ h2_ => h1_.apart h2_ (by have z1_ := HZ1.out; have z2_ := HZ2.out; have z3_ := HZ3.out; have z4_ := HZ4.out; have z5_ := HZ5.out; have z6_ := HZ6.out; have z7_ := HZ7.out; have z8_ := HZ8.out; have z9_ := HZ9.out; have z10_ := HZ10.out; have z11_ := HZ11.out; have z12_ := HZ12.out; have z13_ := HZ13.out; have z14_ := HZ14.out; omega))); clear F_X0_2; replace HB := Aside0.mk hB; clear ho hB hK))
 go_upto_region 21 with (first | (go_at_call 31; refine (laws_markIntSS.calls k (Iv w6_.heap.size w7_.heap.size) _ _ x1 n0 n1 y1 w _ HB.out F_X1_2.out A_mark1.out).mono ?_; rintro e_ w15_ ⟨rfl, ho, hB, hK⟩; have HZ15 := Aside0.mk hK.1; replace F_W1 := Aside0.mk (Kd.R_kept F_W1.out hK (fun k_ h1_ h2_ => h1_.apart h2_ (by have z1_ := HZ1.out; have z2_ := HZ2.out; have z3_ := HZ3.out; have z4_ := HZ4.out; have z5_ := HZ5.out; have z6_ := HZ6.out; have z7_ := HZ7.out; have z8_ := HZ8.out; have z9_ := HZ9.out; have z10_ := HZ10.out; have z11_ := HZ11.out; have z12_ := HZ12.out; have z13_ := HZ13.out; have z14_ := HZ14.out; have z15_ := HZ15.out; omega))); replace F_G := Aside0.mk (Kd.R_kept F_G.out hK (fun k_ h1_ h2_ => h1_.apart h2_ (by have z1_ := HZ1.out; have z2_ := HZ2.out; have z3_ := HZ3.out; have z4_ := HZ4.out; have z5_ := HZ5.out; have z6_ := HZ6.out; have z7_ := HZ7.out; have z8_ := HZ8.out; have z9_ := HZ9.out; have z10_ := HZ10.out; have z11_ := HZ11.out; have z12_ := HZ12.out; have z13_ := HZ13.out; have z14_ := HZ14.out; have z15_ := HZ15.out; omega))); clear F_X1_2; replace HB := Aside0.mk hB; clear ho hB hK))
 go_upto_region 24 with (first | (go_at_call 17; refine (laws_eqRatioS.calls k _ _ gl _ _ wl true _ ((Kd.R_reads' F_G.out).2.2) ((Kd.R_reads' F_G.out).2.1) ((Kd.R_reads' F_W1.out).2.2) ((Kd.R_reads' F_W1.out).2.1) A_eqR.out).mono ?_; rintro e_ w16_ ⟨rfl, hb⟩; replace F_W1 := Aside0.mk (Kd.R_below F_W1.out hb); replace F_G := Aside0.mk (Kd.R_below F_G.out hb); have HZ16 := Aside0.mk hb.size; replace HB := Aside0.mk (below_then HB.out HB.out.size hb); clear hb))
 go_upto_region 26 with (first | (go_at_call 20; refine (laws_markRatioS.calls k (Iv w7_.heap.size w8_.heap.size) _ gl 1 m3 gl' w _ HB.out F_G.out A_markR.out).mono ?_; rintro e_ w17_ ⟨rfl, ho, hB, hK⟩; have HZ17 := Aside0.mk hK.1; replace F_W1 := Aside0.mk (Kd.R_kept F_W1.out hK (fun k_ h1_ h2_ => h1_.apart h2_ (by have z1_ := HZ1.out; have z2_ := HZ2.out; have z3_ := HZ3.out; have z4_ := HZ4.out; have z5_ := HZ5.out; have z6_ := HZ6.out; have z7_ := HZ7.out; have z8_ := HZ8.out; have z9_ := HZ9.out; have z10_ := HZ10.out; have z11_ := HZ11.out; have z12_ := HZ12.out; have z13_ := HZ13.out; have z14_ := HZ14.out; have z15_ := HZ15.out; have z16_ := HZ16.out; have z17_ := HZ17.out; omega))); replace F_G := Aside0.mk (Kd.R_mono (ok' := Iv w7_.heap.size w8_.heap.size) (Kd.R_tight rfl ho) (fun k_ hk_ => F_G.out.1 k_ hk_.symm)); have HN_G := Aside0.mk (Kd.R_reads' F_G.out).1; replace HB := Aside0.mk hB; clear ho hB hK))
 go_upto_region 31 with (first | (go_at_call 21; refine (calls_len HN_G.out (laws_heldRatioS.calls k _ _ gl' 1 m3 _ ((Kd.R_reads' F_G.out).2.2) (Nat.le_trans (Nat.le_of_eq HN_G.out.symm) (Kd.R_reads' F_G.out).2.1) A_held.out)).mono ?_; rintro e_ w18_ ⟨rfl, hd⟩; have hb := drawn_below hd; clear hd; replace F_W1 := Aside0.mk (Kd.R_below F_W1.out hb); replace F_G := Aside0.mk (Kd.R_below F_G.out hb); have HZ18 := Aside0.mk hb.size; replace HB := Aside0.mk (below_then HB.out HB.out.size hb); clear hb))
 go_upto_region 32 with (first | (go_at_call 15; refine (laws_toTankS.calls k A0 c0 l0 x0 _ (Kd.C_below HR0.out HB.out) HC0.out A_to0.out).mono ?_; rintro e_ w19_ ⟨v_X0_4, rfl, ho, hb⟩; replace F_W1 := Aside0.mk (Kd.R_below F_W1.out hb); replace F_G := Aside0.mk (Kd.R_below F_G.out hb); obtain ⟨A_X0_4, c_X0_4, rfl⟩ := Kd.R_slice ho; have F_X0_4 := Aside0.mk (R_ivl ho HB.out.size); clear ho; have HZ19 := Aside0.mk hb.size; replace HB := Aside0.mk (below_then HB.out HB.out.size hb); clear hb) | (go_at_call 24; refine (laws_toIntSS.calls k A1 c1 l1 x1 _ (Kd.C_below HR1.out HB.out) HC1.out A_to1.out).mono ?_; rintro e_ w20_ ⟨v_X1_4, rfl, ho, hb⟩; replace F_W1 := Aside0.mk (Kd.R_below F_W1.out hb); replace F_G := Aside0.mk (Kd.R_below F_G.out hb); replace F_X0_4 := Aside0.mk (Kd.R_below F_X0_4.out hb); obtain ⟨A_X1_4, c_X1_4, rfl⟩ := Kd.S_slice ho; have F_X1_4 := Aside0.mk (S_ivl ho HB.out.size); clear ho; have HZ20 := Aside0.mk hb.size; replace HB := Aside0.mk (below_then HB.out HB.out.size hb); clear hb) | (go_at_call 30; refine (impl_GroupLevels.calls k _ _ x0 _ _ x1 gl wb _ ((Kd.R_reads' F_X0_4.out).2.2) ((Kd.R_reads' F_X0_4.out).2.1) ((Kd.S_reads' F_X1_4.out).2.2) ((Kd.S_reads' F_X1_4.out).2.1) A_impl.out).mono ?_; rintro e_ w21_ ⟨v_H, rfl, ho, hb⟩; replace F_W1 := Aside0.mk (Kd.R_below F_W1.out hb); replace F_G := Aside0.mk (Kd.R_below F_G.out hb); replace F_X0_4 := Aside0.mk (Kd.R_below F_X0_4.out hb); replace F_X1_4 := Aside0.mk (Kd.S_below F_X1_4.out hb); obtain ⟨A_H, c_H, rfl⟩ := Kd.R_slice ho; have F_H := Aside0.mk (R_ivl ho HB.out.size); clear ho; have HZ21 := Aside0.mk hb.size; replace HB := Aside0.mk (below_then HB.out HB.out.size hb); clear hb; clear F_X0_4 F_X1_4))
 go_upto_region 35 with (first | (go_at_call 17; refine (laws_eqRatioS.calls k _ _ gl _ _ wl true _ ((Kd.R_reads' F_H.out).2.2) ((Kd.R_reads' F_H.out).2.1) ((Kd.R_reads' F_W1.out).2.2) ((Kd.R_reads' F_W1.out).2.1) A_eqR.out).mono ?_; rintro e_ w22_ ⟨rfl, hb⟩; replace F_W1 := Aside0.mk (Kd.R_below F_W1.out hb); replace F_G := Aside0.mk (Kd.R_below F_G.out hb); replace F_H := Aside0.mk (Kd.R_below F_H.out hb); have HZ22 := Aside0.mk hb.size; replace HB := Aside0.mk (below_then HB.out HB.out.size hb); clear hb))
 go_wp2_with (first | (go_at_call 21; refine (calls_len HN_G.out (laws_heldRatioS.calls k _ _ gl' 1 m3 _ ((Kd.R_reads' F_G.out).2.2) (Nat.le_trans (Nat.le_of_eq HN_G.out.symm) (Kd.R_reads' F_G.out).2.1) A_held.out)).mono ?_; rintro e_ w23_ ⟨rfl, hd⟩; have hb := drawn_below hd; clear hd; replace F_W1 := Aside0.mk (Kd.R_below F_W1.out hb); replace F_G := Aside0.mk (Kd.R_below F_G.out hb); replace F_H := Aside0.mk (Kd.R_below F_H.out hb); have HZ23 := Aside0.mk hb.size; replace HB := Aside0.mk (below_then HB.out HB.out.size hb); clear hb))
 go_ret
 exact ⟨by first | rfl | simp, HB.out⟩
set_option maxHeartbeats 8000000 in
set_option maxRecDepth 100000 in
theorem laws_FnExactGroupLevels.calls (k : Nat) (A0 : Option Addr) (c0 : Nat) (l0 : List (S66)) (A1 : Option Addr) (c1 : Nat) (l1 : List (List Int)) (w : World) (hr0 : Kd.C k66 w A0 l0.length l0) (hc0 : l0.length ≤ c0) (hr1 : Kd.C (Kd.slice 3 (Kd.int .i64)) w A1 l1.length l1) (hc1 : l1.length ≤ c1) (h : laws_FnExactGroupLevels.f k l0 l1 = some true) :
  Calls Try.prog 6 #[.slice A0 l0.length c0, .slice A1 l1.length c1] w fun e w' => e = .returned (.bool true) ∧ Below w.heap.size w w' := by
 unfold laws_FnExactGroupLevels.f at h
 replace h := Option.bind_eq_some_iff.mp h
 obtain ⟨z0, A_sz0, h⟩ := h
 by_cases hz0 : z0 < 0
 ·have bz0 : decide (z0 < 0) = true := decide_eq_true hz0
  have HB := Aside0.mk (Below.refl w.heap.size w)
  have HR0 := Aside0.mk hr0
  have HC0 := Aside0.mk hc0
  have HR1 := Aside0.mk hr1
  have HC1 := Aside0.mk hc1
  replace A_sz0 := Aside0.mk A_sz0
  clear h hr0 hc0 hr1 hc1 hz0
  go_enter Try.func6, Try.ntmps6
  go_wp2_with (first | (go_at_call 13; refine (laws_szTankS.calls A0 c0 l0 1048576 z0 _ (Kd.C_below HR0.out HB.out) HC0.out A_sz0.out).mono ?_; rintro e_ w1_ ⟨rfl, hd⟩; have hb := drawn_below hd; clear hd; have HZ1 := Aside0.mk hb.size; replace HB := Aside0.mk (below_then HB.out HB.out.size hb); clear hb))
  go_ret
  exact ⟨by first | rfl | simp, HB.out⟩
 rw [if_neg hz0] at h
 replace h := Option.bind_eq_some_iff.mp h
 obtain ⟨z1, A_sz1, h⟩ := h
 by_cases hz1 : z1 < 0
 ·have bz0 : decide (z0 < 0) = false := decide_eq_false hz0
  have bz1 : decide (z1 < 0) = true := decide_eq_true hz1
  have HB := Aside0.mk (Below.refl w.heap.size w)
  have HR0 := Aside0.mk hr0
  have HC0 := Aside0.mk hc0
  have HR1 := Aside0.mk hr1
  have HC1 := Aside0.mk hc1
  replace A_sz0 := Aside0.mk A_sz0
  replace A_sz1 := Aside0.mk A_sz1
  clear h hr0 hc0 hr1 hc1 hz0 hz1
  go_enter Try.func6, Try.ntmps6
  go_upto_region 5 with (first | (go_at_call 13; refine (laws_szTankS.calls A0 c0 l0 1048576 z0 _ (Kd.C_below HR0.out HB.out) HC0.out A_sz0.out).mono ?_; rintro e_ w1_ ⟨rfl, hd⟩; have hb := drawn_below hd; clear hd; have HZ1 := Aside0.mk hb.size; replace HB := Aside0.mk (below_then HB.out HB.out.size hb); clear hb))
  go_wp2_with (first | (go_at_call 22; refine (laws_szIntSS.calls k A1 c1 l1 z0 z1 _ (Kd.C_below HR1.out HB.out) HC1.out A_sz1.out).mono ?_; rintro e_ w2_ ⟨rfl, hd⟩; have hb := drawn_below hd; clear hd; have HZ2 := Aside0.mk hb.size; replace HB := Aside0.mk (below_then HB.out HB.out.size hb); clear hb))
  go_ret
  exact ⟨by first | rfl | simp, HB.out⟩
 rw [if_neg hz1] at h
 replace h := Option.bind_eq_some_iff.mp h
 obtain ⟨x0, A_to0, h⟩ := h
 replace h := Option.bind_eq_some_iff.mp h
 obtain ⟨x1, A_to1, h⟩ := h
 replace h := Option.bind_eq_some_iff.mp h
 obtain ⟨⟨wl, wb⟩, A_spec, h⟩ := h
 replace h := Option.bind_eq_some_iff.mp h
 obtain ⟨⟨gl, gb⟩, A_impl, h⟩ := h
 replace h := Option.bind_eq_some_iff.mp h
 obtain ⟨e, A_eqR, h⟩ := h
 dsimp only at h A_eqR
 by_cases c1 : e = true ∧ gb = wb
 case neg => rw [if_neg c1] at h; exact absurd h (by simp)
 rw [if_pos c1] at h
 obtain ⟨rfl, rfl⟩ := c1
 replace h := Option.bind_eq_some_iff.mp h
 obtain ⟨e0, A_eq0, h⟩ := h
 by_cases d0 : e0 = true
 case neg => rw [if_neg d0] at h; exact absurd h (by simp)
 rw [if_pos d0] at h
 subst d0
 replace h := Option.bind_eq_some_iff.mp h
 obtain ⟨e1, A_eq1, h⟩ := h
 by_cases d1 : e1 = true
 case neg => rw [if_neg d1] at h; exact absurd h (by simp)
 rw [if_pos d1] at h
 subst d1
 replace h := Option.bind_eq_some_iff.mp h
 obtain ⟨⟨n0, y0⟩, A_mark0, h⟩ := h
 dsimp only at h A_mark0
 replace h := Option.bind_eq_some_iff.mp h
 obtain ⟨⟨n1, y1⟩, A_mark1, h⟩ := h
 dsimp only at h A_mark1
 by_cases hm : n1 < 0
 ·rw [if_pos hm] at h; exact absurd h (by simp)
 rw [if_neg hm] at h
 replace h := Option.bind_eq_some_iff.mp h
 obtain ⟨⟨m3, gl'⟩, A_markR, h⟩ := h
 replace h := Option.bind_eq_some_iff.mp h
 obtain ⟨q, A_held, h⟩ := h
 dsimp only at h A_held
 by_cases hq : q < 0
 ·rw [if_pos hq] at h; exact absurd h (by simp)
 rw [if_neg hq] at h
 by_cases c4 : q = m3
 case neg => rw [if_neg c4] at h; exact absurd h (by simp)
 subst c4
 exact laws_FnExactGroupLevels.main k A0 c0 l0 A1 c1 l1 z0 x0 n0 y0 z1 x1 n1 y1 wl gl gl' _ q w hr0 hc0 hr1 hc1 A_sz0 hz0 A_sz1 hz1 A_to0 A_to1 A_spec A_impl A_eqR A_eq0 A_eq1 A_mark0 A_mark1 hm A_markR A_held hq

end Go.Proofs.Ytedkbaadbnpkoaa.PFnExactGroupLevels

/- Lean functions of the Go functions that the law FnExactGroupLevels reaches, and the proofs that the calls come to what they say (made by program). -/
import Derived.Test.YtedkbaadbnpkoaaAb
import Derived.Test.YtedkbaadbnpkoaaPFnExactGroupLevelsx0
import Derived.Test.YtedkbaadbnpkoaaPFnExactGroupLevelsx9
namespace Go.Proofs.Ytedkbaadbnpkoaa.PFnExactGroupLevels
open Go.RowKit Go.Proofs.YtedkbaadbnpkoaaW.PrintWords Go.Proofs.YtedkbaadbnpkoaaW.PrintLast Go.Proofs.YtedkbaadbnpkoaaW.PrintMore Go.Proofs.Ytedkbaadbnpkoaa.Ab
attribute [local go_sem] max2_int min2_int max_two min_two max_three min_three max_four min_four   -- for this text's walks alone
set_option linter.unusedVariables false
set_option linter.unusedSimpArgs false

/-! ### impl_GroupsOf: function 37 -/
mutual
def impl_GroupsOf.l0 : Nat → List (S63) → List (List Int) → List Int → Int → Int → Option ((List (List Int)) × Bool)
  | 0, _, _, _, _, _ => none
  | k + 1, x0, x1, x8, x28, x29 => if x29 < x28 then (if x8.length < 17592186044416 then (impl_GroupsOf.l0 k x0 x1 (x8 ++ [x29]) x28 (wrap64 (x29 + 1))) else (none)) else (impl_GroupsOf.l1 k x0 x1 x8 (x0.length : Int) 0)
def impl_GroupsOf.l1 : Nat → List (S63) → List (List Int) → List Int → Int → Int → Option ((List (List Int)) × Bool)
  | 0, _, _, _, _, _ => none
  | k + 1, x0, x1, x8, x38, x39 => if x39 < x38 then (impl_GroupsOf.l2 k x0 x1 x8 x38 x39 x1 (x1.length : Int) 0) else (impl_GroupsOf.l3 k x8 (([] : List (List Int))) (x0.length : Int) 0)
def impl_GroupsOf.l2 : Nat → List (S63) → List (List Int) → List Int → Int → Int → List (List Int) → Int → Int → Option ((List (List Int)) × Bool)
  | 0, _, _, _, _, _, _, _, _ => none
  | k + 1, x0, x1, x8, x38, x39, x41, x42, x43 => if x43 < x42 then (if 0 ≤ x43 then (if x43 < (x41.length : Int) then (if 0 < ((rd_L4 x41 x43).length : Int) then (if 0 ≤ (rd (rd_L4 x41 x43) 0) then (if (rd (rd_L4 x41 x43) 0) < (x8.length : Int) then (if 1 < ((rd_L4 x41 x43).length : Int) then (if 0 ≤ (rd (rd_L4 x41 x43) 1) then (if (rd (rd_L4 x41 x43) 1) < (x8.length : Int) then (impl_GroupsOf.l2 k x0 x1 ((x8.set ((rd (rd_L4 x41 x43) 0) : Int).toNat (mn (rd x8 (rd (rd_L4 x41 x43) 0)) (rd x8 (rd (rd_L4 x41 x43) 1)))).set ((rd (rd_L4 x41 x43) 1) : Int).toNat (mn (rd x8 (rd (rd_L4 x41 x43) 0)) (rd x8 (rd (rd_L4 x41 x43) 1)))) x38 x39 x41 x42 (wrap64 (x43 + 1))) else (none)) else (none)) else (none)) else (none)) else (none)) else (none)) else (none)) else (none)) else (impl_GroupsOf.l1 k x0 x1 x8 x38 (wrap64 (x39 + 1)))
def impl_GroupsOf.l3 : Nat → List Int → List (List Int) → Int → Int → Option ((List (List Int)) × Bool)
  | 0, _, _, _, _ => none
  | k + 1, x8, x13, x76, x77 => if x77 < x76 then (impl_GroupsOf.l4 k x8 x13 x77 (([] : List Int)) x76 x77 x8 (x8.length : Int) 0) else (some (x13, true))
def impl_GroupsOf.l4 : Nat → List Int → List (List Int) → Int → List Int → Int → Int → List Int → Int → Int → Option ((List (List Int)) × Bool)
  | 0, _, _, _, _, _, _, _, _, _ => none
  | k + 1, x8, x13, x14, x15, x76, x77, x81, x82, x83 => if x83 < x82 then (if 0 ≤ x83 then (if x83 < (x81.length : Int) then (if (rd x81 x83) = x14 then (if x15.length < 17592186044416 then (impl_GroupsOf.l4 k x8 x13 x14 (x15 ++ [x83]) x76 x77 x81 x82 (wrap64 (x83 + 1))) else (none)) else (impl_GroupsOf.l4 k x8 x13 x14 x15 x76 x77 x81 x82 (wrap64 (x83 + 1)))) else (none)) else (none)) else (if (x15.length : Int) > 0 then (if x13.length < 5864062014805 then (impl_GroupsOf.l3 k x8 (x13 ++ [x15]) x76 (wrap64 (x77 + 1))) else (none)) else (impl_GroupsOf.l3 k x8 x13 x76 (wrap64 (x77 + 1))))
end
def impl_GroupsOf.f (k : Nat) (l0 : List (S63)) (l1 : List (List Int)) : Option ((List (List Int)) × Bool) := (impl_AreJoins.f l0 l1).bind fun bt274 => (if bt274.1 = true then (impl_GroupsOf.l0 k l0 l1 (([] : List Int)) (l0.length : Int) 0) else (some (([] : List (List Int)), false)))
def impl_GroupsOf.T15 : Bool × List (List Nat × List Nat) := (true, [([], []), ([], []), ([1], [1]), ([2], [2]), ([0, 3], [0, 3]), ([4], [4]), ([], []), ([], []), ([7], [7]), ([8], [8]), ([6, 9], [6, 9]), ([10], [10]), ([5, 11], [5, 11]), ([12, 0, 1, 2, 3, 4, 5, 6, 7, 8, 9, 10, 11, 12], [12])])
def impl_GroupsOf.B15 : List Nat := [0, 0, 2, 6, 15, 31, 0, 0, 128, 384, 960, 1984, 4095, 8191]
theorem impl_GroupsOf.tab15 : rtab .any (opsOf Try.f37 15) = impl_GroupsOf.T15 := by kernel_rfl
theorem impl_GroupsOf.bits15 : waitsOk impl_GroupsOf.T15.2 impl_GroupsOf.B15 = true := by kernel_rfl
def impl_GroupsOf.T16 : Bool × List (List Nat × List Nat) := (true, [([], []), ([], []), ([1], [1]), ([2], [2]), ([], []), ([], []), ([5], [5]), ([6], [6]), ([], []), ([], []), ([0, 3, 0, 1, 2, 3, 7, 8], [0, 3]), ([10, 8, 0, 1, 2, 3, 7, 8], [8, 10]), ([4, 7, 0, 1, 2, 3, 4, 5, 6, 7, 8, 9, 10, 11], [4, 7]), ([12, 9, 11, 0, 1, 2, 3, 4, 5, 6, 7, 8, 9, 10, 11], [9, 12])])
def impl_GroupsOf.B16 : List Nat := [0, 0, 2, 6, 0, 0, 32, 96, 0, 0, 495, 1519, 4095, 8191]
theorem impl_GroupsOf.tab16 : rtab .any (opsOf Try.f37 16) = impl_GroupsOf.T16 := by kernel_rfl
theorem impl_GroupsOf.bits16 : waitsOk impl_GroupsOf.T16.2 impl_GroupsOf.B16 = true := by kernel_rfl
set_option maxHeartbeats 8000000 in
set_option maxRecDepth 100000 in
theorem impl_GroupsOf.calls (k : Nat) (A0 : Option Addr) (c0 : Nat) (l0 : List (S63)) (A1 : Option Addr) (c1 : Nat) (l1 : List (List Int)) (r1 : List (List Int)) (r2 : Bool) (w : World) (hr0 : Kd.C k63 w A0 l0.length l0) (hc0 : l0.length ≤ c0) (hr1 : Kd.C (Kd.slice 3 (Kd.int .i64)) w A1 l1.length l1) (hc1 : l1.length ≤ c1) (h : impl_GroupsOf.f k l0 l1 = some (r1, r2)) :
  Calls Try.prog 37 #[.slice A0 l0.length c0, .slice A1 l1.length c1] w fun e w' => ∃ v0_ : Value, e = .returned (.tuple #[v0_, .bool r2]) ∧ Kd.S (Kd.slice 3 (Kd.int .i64)) 52 w' w.heap.size (fun _ => True) v0_ r1 ∧ Below w.heap.size w w' := by
 have HR0 := Aside0.mk hr0
 have HC0 := Aside0.mk hc0
 clear hr0 hc0
 have HR1 := Aside0.mk hr1
 have HC1 := Aside0.mk hc1
 clear hr1 hc1
 have HB := Aside0.mk (Below.refl w.heap.size w)
 have H : ((impl_AreJoins.f l0 l1).bind fun bt274 => (if bt274.1 = true then (impl_GroupsOf.l0 k l0 l1 (([] : List Int)) (l0.length : Int) 0) else (some (([] : List (List Int)), false)))) = some (r1, r2) := h
 clear h
 replace H := Option.bind_eq_some_iff.mp H
 obtain ⟨⟨t274, t275⟩, A30, H⟩ := H
 replace H : (if t274 = true then (impl_GroupsOf.l0 k l0 l1 (([] : List Int)) (l0.length : Int) 0) else (some (([] : List (List Int)), false))) = some (r1, r2) := H
 have A3 := Aside0.mk A30
 clear A30
 by_cases c4 : t274 = true
 ·subst c4
  have H1 : (impl_GroupsOf.l0 k l0 l1 (([] : List Int)) (l0.length : Int) 0) = some (r1, r2) := by rw [if_pos rfl] at H; exact H
  clear H
  have H := H1
  clear H1
  obtain ⟨y276, hy276⟩ : ∃ y_ : List Int, y_ = (([] : List Int)) := ⟨_, rfl⟩
  replace H : (impl_GroupsOf.l0 k l0 l1 y276 (l0.length : Int) 0) = some (r1, r2) := by first | (rw [hy276]; with_reducible exact H) | (have H2_ := (Option.bind_some _ _).symm.trans H; rw [hy276]; with_reducible exact H2_) | (have H2_ := (Option.bind_some _ _).symm.trans H; with_reducible exact H2_) | with_reducible exact H | (rw [hy276]; exact H) | exact H
  have Ny276 := Aside0.mk hy276
  clear hy276
  have H' := Aside0.mk H
  clear H
  go_enter Try.func37, Try.ntmps37
  go_wp2_with (first | ((with_reducible refine gate_callee (f := 28) rfl ?_); refine goesL_ (some 21) rfl rfl Try.func28 (by kernel_rfl) rfl #[.slice A0 l0.length c0, .slice A1 l1.length c1] rfl (by (try simp only [List.map_toArray, List.map_cons, List.map_nil]); first | done | rfl | (simp only [List.length_drop, List.length_take]; rfl)) ?_; (with_reducible refine (impl_AreJoins.calls _ _ l0 _ _ l1 true t275 _ ?side1 ?side2 ?side3 ?side4 A3.out).mono ?_); (case side1 => exact xd (HR0.out)); (case side2 => exact HC0.out); (case side3 => exact xd (HR1.out)); (case side4 => exact HC1.out); rintro e w5 ⟨rfl, hb⟩; refine ⟨_, rfl, ?_⟩; replace HB := xp HB hb; (try clear hb); (try clear hb2); (try clear hk); (try clear hi)) | ((with_reducible refine gate_dst (N := 26) rfl ?_); refine Kd.R_lit (Kd.int .i64) _ 3 ?hg (N := 26) ?hd (xs := ([] : List Int)) (inner := []) (ok := fun _ => True) (okp := fun _ => True) ?hr ?hp (fun _ hk => hk) trivial (Below.refl _ _) (Nat.le_refl _) (by simp) ?_; (case hd => rfl); (case hg => rfl); (case hr => first | (go_simp; done) | (go_simp; rfl)); (case hp => exact (Reps.none _ _)); intro v277 w6 ho7 hb hg_ hnew_; clear hg_ hnew_; (first | rw [← Ny276.out] at ho7 | (simp only [Int.reduceToNat] at ho7; rw [← Ny276.out] at ho7)); have HO278 := Aside0.mk (Kd.R_lower ho7 (below_size (xs HB.out))); replace HB := xp HB hb; clear hb ho7))
  go_loopg [8, 29] k (fun kq v8 v29 w' => ∃ (x8_1 : List Int) (x29_1 : Int), v29 = .int .i64 x29_1 ∧ Aside0 (impl_GroupsOf.l0 kq l0 l1 x8_1 (l0.length : Int) x29_1 = some (r1, r2)) ∧ Aside0 (kq ≤ k) ∧ Aside0 (Kd.R (Kd.int .i64) 3 w' w.heap.size (fun _ => True) v8 x8_1) ∧ Aside0 (Below w.heap.size w w'))
  case atStart => exact ⟨(y276), (0), (by first | rfl | (simp; done) | (simp [*]; done)), H', ⟨Nat.le_refl _⟩, ⟨xr HO278.out⟩, ⟨xs HB.out⟩⟩
  case round =>
   clear H'
   try clear c1
   try clear c2
   try clear p2
   try clear c3
   try clear c4
   obtain ⟨x8_1, x29_1, rfl, HA, HK1, HO_8, HB⟩ := hrel
   cases gk with
   | zero => exact absurd HA.out (by simp [impl_GroupsOf.l0])
   | succ k1 =>
    have H := HA.out
    clear HA
    simp only [impl_GroupsOf.l0] at H
    by_cases c8 : x29_1 < (l0.length : Int)
    ·rw [if_pos c8] at H
     have c8b0 : decide (x29_1 < (l0.length : Int)) = true := decide_eq_true c8
     clear c8
     by_cases c9 : x8_1.length < 17592186044416
     ·rw [if_pos c9] at H
      have LMc9 := Aside0.mk c9
      clear c9
      obtain ⟨y279, hy279⟩ : ∃ y_ : List Int, y_ = (x8_1 ++ [x29_1]) := ⟨_, rfl⟩
      replace H : (impl_GroupsOf.l0 k1 l0 l1 y279 (l0.length : Int) (wrap64 (x29_1 + 1))) = some (r1, r2) := by first | (rw [hy279]; with_reducible exact H) | (have H2_ := (Option.bind_some _ _).symm.trans H; rw [hy279]; with_reducible exact H2_) | (have H2_ := (Option.bind_some _ _).symm.trans H; with_reducible exact H2_) | with_reducible exact H | (rw [hy279]; exact H) | exact H
      have Ny279 := Aside0.mk hy279
      clear hy279
      have H' := Aside0.mk H
      clear H
      go_wp2_with (first | ((with_reducible refine gate_builtin (b := .append) (xs := #[.tmp 32, .tmp 34]) rfl ?_); at_builtin; refine Kd.R_append (Kd.int .i64) (w0 := w) w.heap.size rfl (.tmp 32) (.tmp 34) 52 3 (.int .i64 0) 8 rfl Try.underlying52 info3 rfl (by decide) (by omega) u8 x8_1 x29_1 [.int .i64 x29_1] (fun _ => True) (fun _ => False) rfl rfl ?aP (fun _ hk => hk.elim) ?aF ?aO ?aB ?aS ?aL ?_; (case aP => exact rfl); (case aB => exact (xs HB.out)); (case aF => exact (fun _ _ => trivial)); (case aO => exact (xr HO_8.out)); (case aS => exact (below_size (xs HB.out))); (case aL => have := LMc9.out; omega); intro v280 w10 ho hb hg hat; rw [← Ny279.out] at ho; replace HB := Aside0.mk (hb); have HO281 := Aside0.mk (ho); clear HO_8; clear ho hb hg hat))
      go_roundg k1
      case measure => have := HK1.out; omega
      case rel => exact ⟨(y279), (wrap64 (x29_1 + 1)), (by first | rfl | (simp; done) | (simp [*]; done)), H', ⟨by have := HK1.out; omega⟩, ⟨xr HO281.out⟩, ⟨xs HB.out⟩⟩
     ·rw [if_neg c9] at H
      exact absurd H (by simp)
    ·rw [if_neg c8] at H
     have c8b0 : decide (x29_1 < (l0.length : Int)) = false := decide_eq_false c8
     clear c8
     have H' := Aside0.mk H
     clear H
     go_wp2
     go_loopg [39] k1 (fun kq v39 w' => ∃ (x8_2 : List Int) (x39_2 : Int), v39 = .int .i64 x39_2 ∧ Aside0 (impl_GroupsOf.l1 kq l0 l1 x8_2 (l0.length : Int) x39_2 = some (r1, r2)) ∧ Aside0 (kq ≤ k1) ∧ Aside0 (Kd.R (Kd.int .i64) 3 w' w.heap.size (fun _ => True) u8 x8_2) ∧ Aside0 (Below w.heap.size w w'))
     case atStart => exact ⟨(x8_1), (0), (by first | rfl | (simp; done) | (simp [*]; done)), H', ⟨Nat.le_refl _⟩, ⟨xr HO_8.out⟩, ⟨xs HB.out⟩⟩
     case round =>
      clear H'
      try clear c1
      try clear c2
      try clear p2
      try clear c3
      try clear c4
      try clear p6
      try clear c8
      try clear c8b0
      try clear c9
      try clear p2
      obtain ⟨x8_2, x39_2, rfl, HA, HK2, HO_8, HB⟩ := hrel
      cases gk with
      | zero => exact absurd HA.out (by simp [impl_GroupsOf.l1])
      | succ k2 =>
       have H := HA.out
       clear HA
       simp only [impl_GroupsOf.l1] at H
       by_cases c11 : x39_2 < (l0.length : Int)
       ·rw [if_pos c11] at H
        have c11b0 : decide (x39_2 < (l0.length : Int)) = true := decide_eq_true c11
        clear c11
        have H' := Aside0.mk H
        clear H
        go_wp2
        go_loopg [43] k2 (fun kq v43 w' => ∃ (x8_3 : List Int) (x43_3 : Int), v43 = .int .i64 x43_3 ∧ Aside0 (impl_GroupsOf.l2 kq l0 l1 x8_3 (l0.length : Int) x39_2 l1 (l1.length : Int) x43_3 = some (r1, r2)) ∧ Aside0 (kq ≤ k2) ∧ Aside0 (Kd.R (Kd.int .i64) 3 w' w.heap.size (fun _ => True) u8 x8_3) ∧ Aside0 (Below w.heap.size w w'))
        case atStart => exact ⟨(x8_2), (0), (by first | rfl | (simp; done) | (simp [*]; done)), H', ⟨Nat.le_refl _⟩, ⟨xr HO_8.out⟩, ⟨xs HB.out⟩⟩
        case round =>
         clear H'
         try clear c1
         try clear c2
         try clear p2
         try clear c3
         try clear c4
         try clear p6
         try clear c8
         try clear c8b0
         try clear c9
         try clear c11
         try clear c11b0
         try clear p2
         try clear p6
         obtain ⟨x8_3, x43_3, rfl, HA, HK3, HO_8, HB⟩ := hrel
         cases gk with
         | zero => exact absurd HA.out (by simp [impl_GroupsOf.l2])
         | succ k3 =>
          have H := HA.out
          clear HA
          simp only [impl_GroupsOf.l2] at H
          by_cases c12 : x43_3 < (l1.length : Int)
          ·rw [if_pos c12] at H
           have c12b0 : decide (x43_3 < (l1.length : Int)) = true := decide_eq_true c12
           clear c12
           by_cases c13 : 0 ≤ x43_3
           ·rw [if_pos c13] at H
            have c13b0 : decide (0 ≤ x43_3) = true := decide_eq_true c13
            clear c13
            by_cases c14 : x43_3 < (l1.length : Int)
            ·rw [if_pos c14] at H
             have c14b0 : decide (x43_3 < (l1.length : Int)) = true := decide_eq_true c14
             clear c14
             by_cases c15 : 0 < ((rd_L4 l1 x43_3).length : Int)
             ·rw [if_pos c15] at H
              have c15b0 : decide (0 < ((rd_L4 l1 x43_3).length : Int)) = true := decide_eq_true c15
              have c15b1 : decide (0 < (rd_L4 l1 x43_3).length) = true := decide_eq_true (by omega)
              clear c15
              by_cases c16 : 0 ≤ (rd (rd_L4 l1 x43_3) 0)
              ·rw [if_pos c16] at H
               have c16b0 : decide (0 ≤ (rd (rd_L4 l1 x43_3) 0)) = true := decide_eq_true c16
               clear c16
               by_cases c17 : (rd (rd_L4 l1 x43_3) 0) < (x8_3.length : Int)
               ·rw [if_pos c17] at H
                have c17b0 : decide ((rd (rd_L4 l1 x43_3) 0) < (x8_3.length : Int)) = true := decide_eq_true c17
                clear c17
                by_cases c18 : 1 < ((rd_L4 l1 x43_3).length : Int)
                ·rw [if_pos c18] at H
                 have c18b0 : decide (1 < ((rd_L4 l1 x43_3).length : Int)) = true := decide_eq_true c18
                 have c18b1 : decide (1 < (rd_L4 l1 x43_3).length) = true := decide_eq_true (by omega)
                 clear c18
                 by_cases c19 : 0 ≤ (rd (rd_L4 l1 x43_3) 1)
                 ·rw [if_pos c19] at H
                  have c19b0 : decide (0 ≤ (rd (rd_L4 l1 x43_3) 1)) = true := decide_eq_true c19
                  clear c19
                  by_cases c20 : (rd (rd_L4 l1 x43_3) 1) < (x8_3.length : Int)
                  ·rw [if_pos c20] at H
                   have c20b0 : decide ((rd (rd_L4 l1 x43_3) 1) < (x8_3.length : Int)) = true := decide_eq_true c20
                   clear c20
                   obtain ⟨ji21, hji21⟩ : ∃ j_ : Int, (mn (rd x8_3 (rd (rd_L4 l1 x43_3) 0)) (rd x8_3 (rd (rd_L4 l1 x43_3) 1))) = j_ := ⟨_, rfl⟩
                   replace H : (impl_GroupsOf.l2 k3 l0 l1 ((x8_3.set ((rd (rd_L4 l1 x43_3) 0) : Int).toNat (ji21)).set ((rd (rd_L4 l1 x43_3) 1) : Int).toNat (ji21)) (l0.length : Int) x39_2 l1 (l1.length : Int) (wrap64 (x43_3 + 1))) = some (r1, r2) := by first | (rw [hji21] at H; exact H) | (simp only [hji21] at H ⊢; exact H)
                   have hji21_ : (if (rd x8_3 (rd (rd_L4 l1 x43_3) 1)) < (rd x8_3 (rd (rd_L4 l1 x43_3) 0)) then (rd x8_3 (rd (rd_L4 l1 x43_3) 1)) else (rd x8_3 (rd (rd_L4 l1 x43_3) 0))) = ji21 := hji21
                   obtain ⟨y289, hy289⟩ : ∃ y_ : List Int, y_ = (x8_3.set ((rd (rd_L4 l1 x43_3) 0) : Int).toNat (ji21)) := ⟨_, rfl⟩
                   replace H : (impl_GroupsOf.l2 k3 l0 l1 (y289.set ((rd (rd_L4 l1 x43_3) 1) : Int).toNat (ji21)) (l0.length : Int) x39_2 l1 (l1.length : Int) (wrap64 (x43_3 + 1))) = some (r1, r2) := by first | (rw [hy289]; with_reducible exact H) | (have H2_ := (Option.bind_some _ _).symm.trans H; rw [hy289]; with_reducible exact H2_) | (have H2_ := (Option.bind_some _ _).symm.trans H; with_reducible exact H2_) | with_reducible exact H | (rw [hy289]; exact H) | exact H
                   have Ny289 := Aside0.mk hy289
                   clear hy289
                   obtain ⟨y290, hy290⟩ : ∃ y_ : List Int, y_ = (y289.set ((rd (rd_L4 l1 x43_3) 1) : Int).toNat (ji21)) := ⟨_, rfl⟩
                   replace H : (impl_GroupsOf.l2 k3 l0 l1 y290 (l0.length : Int) x39_2 l1 (l1.length : Int) (wrap64 (x43_3 + 1))) = some (r1, r2) := by first | (rw [hy290]; with_reducible exact H) | (have H2_ := (Option.bind_some _ _).symm.trans H; rw [hy290]; with_reducible exact H2_) | (have H2_ := (Option.bind_some _ _).symm.trans H; with_reducible exact H2_) | with_reducible exact H | (rw [hy290]; exact H) | exact H
                   have Ny290 := Aside0.mk hy290
                   clear hy290
                   have H' := Aside0.mk H
                   clear H
                   have p282 : 0 ≤ (x43_3 : Int) := of_decide_eq_true (by first | (with_reducible assumption) | assumption)
                   have q282 : x43_3 < (l1.length : Int) := of_decide_eq_true (by first | (with_reducible assumption) | assumption)
                   obtain ⟨ad282, A282_0, c282_0, e282, hx282_0, hl282_0, hi282_0⟩ := at_L4 HR1.out x43_3 p282 q282
                   cases e282
                   replace hx282_0 := (HB.out.cell (World.block_lt_of_cell? w _ hx282_0)).trans hx282_0
                   have HR282_0 := Aside0.mk hi282_0
                   have HC282_0 := Aside0.mk hl282_0
                   clear hi282_0 hl282_0
                   replace p282 := eq_true p282
                   replace q282 := eq_true q282
                   try go_wp2
                   replace HO_8 := xw HO_8
                   replace HB := Aside0.mk (below_drew1 HB.out)
                   have p283 : 0 ≤ (0 : Int) := (by omega)
                   have q283 : 0 < ((rd_L4 l1 x43_3).length : Int) := of_decide_eq_true (by first | (with_reducible assumption) | assumption)
                   obtain ⟨ad283, e283, hx283_0⟩ := Kd.at_int HR282_0.out 0 p283 q283
                   have hw283_0 := hx283_0
                   (try rw [show ((0 : Int)).toNat = 0 from rfl] at hw283_0)
                   (try rw [show 0 * 1 = 0 from rfl] at hw283_0)
                   (try rw [Addr.add_zero'] at hw283_0)
                   cases e283
                   have qi283 : (0 < (rd_L4 l1 x43_3).length) = True := eq_true (by omega)
                   (try rw [show ((0 : Int)).toNat = 0 from rfl] at hx283_0)
                   (try rw [Addr.add_zero'] at hx283_0)
                   replace hx283_0 := (HB.out.cell (World.block_lt_of_cell? w _ hx283_0)).trans hx283_0
                   replace p283 := eq_true p283
                   replace q283 := eq_true q283
                   obtain ⟨Ao25, co25, eo25⟩ := Kd.R_slice HO_8.out
                   (first | subst eo25 | (injection eo25 with f1_ f2_ f3_; have f4_ := f1_.symm; have f5_ := f3_.symm; clear f1_ f2_ f3_; subst f4_; subst f5_))
                   have p284 : 0 ≤ ((rd (rd_L4 l1 x43_3) 0) : Int) := of_decide_eq_true (by first | (with_reducible assumption) | assumption)
                   have q284 : (rd (rd_L4 l1 x43_3) 0) < (x8_3.length : Int) := of_decide_eq_true (by first | (with_reducible assumption) | assumption)
                   obtain ⟨ad284, e284, hx284_0⟩ := Kd.at_int (Kd.R_reads' HO_8.out).2.2 (rd (rd_L4 l1 x43_3) 0) p284 q284
                   cases e284
                   replace p284 := eq_true p284
                   replace q284 := eq_true q284
                   have p285 : 0 ≤ (1 : Int) := (by omega)
                   have q285 : 1 < ((rd_L4 l1 x43_3).length : Int) := of_decide_eq_true (by first | (with_reducible assumption) | assumption)
                   obtain ⟨ad285, e285, hx285_0⟩ := Kd.at_int HR282_0.out 1 p285 q285
                   have hw285_0 := hx285_0
                   (try rw [show ((1 : Int)).toNat = 1 from rfl] at hw285_0)
                   (try rw [show 1 * 1 = 1 from rfl] at hw285_0)
                   (try simp only [Nat.reduceMul, Nat.reduceEqDiff, Go.Addr.add, ↓reduceIte] at hw285_0)
                   obtain rfl : ad283 = ad285 := (by injection e285)
                   (try simp only [show (1 : Int).toNat = 1 from rfl, Nat.reduceMul, Nat.reduceEqDiff, Go.Addr.add, ↓reduceIte] at hx285_0)
                   have qi285 : (1 < (rd_L4 l1 x43_3).length) = True := eq_true (by omega)
                   (try rw [show ((1 : Int)).toNat = 1 from rfl] at hx285_0)
                   replace hx285_0 := (HB.out.cell (World.block_lt_of_cell? w _ hx285_0)).trans hx285_0
                   replace p285 := eq_true p285
                   replace q285 := eq_true q285
                   have p286 : 0 ≤ ((rd (rd_L4 l1 x43_3) 1) : Int) := of_decide_eq_true (by first | (with_reducible assumption) | assumption)
                   have q286 : (rd (rd_L4 l1 x43_3) 1) < (x8_3.length : Int) := of_decide_eq_true (by first | (with_reducible assumption) | assumption)
                   obtain ⟨ad286, e286, hx286_0⟩ := Kd.at_int (Kd.R_reads' HO_8.out).2.2 (rd (rd_L4 l1 x43_3) 1) p286 q286
                   obtain rfl : ad284 = ad286 := (by injection e286)
                   replace p286 := eq_true p286
                   replace q286 := eq_true q286
                   refine start_ (n := 14) (S := fun w' => w'.cell? ad283 = some (.int .i64 (rd (rd_L4 l1 x43_3) 0)) ∧ w'.cell? (ad284.add ((rd (rd_L4 l1 x43_3) 0)).toNat) = some (.int .i64 (rd x8_3 (rd (rd_L4 l1 x43_3) 0))) ∧ w'.cell? ⟨ad283.block, ad283.off + 1, none⟩ = some (.int .i64 (rd (rd_L4 l1 x43_3) 1)) ∧ w'.cell? (ad284.add ((rd (rd_L4 l1 x43_3) 1)).toNat) = some (.int .i64 (rd x8_3 (rd (rd_L4 l1 x43_3) 1)))) (ds := []) #[false, false, false, false, false, false, false, false, false, false, false, false, false, false] (by kernel_rfl) rfl rfl ⟨((HB.out.cell (World.block_lt_of_cell? w _ hw283_0)).trans hw283_0), hx284_0, ((HB.out.cell (World.block_lt_of_cell? w _ hw285_0)).trans hw285_0), hx286_0⟩ (fun hHeld => ?_); refine with_tabW impl_GroupsOf.tab15 impl_GroupsOf.bits15 (fun HT_ HW_ => ?_)
                   generalize wr.drew = w24 at HO_8 HB hx283_0 hx284_0 hx285_0 hx286_0 hHeld ⊢
                   refine pure_ (i := 0) (N := some 47) (v := ?_) (a' := ?_) #[true, false, false, false, false, false, false, false, false, false, false, false, false, false] rfl rfl (any_of HT_.out (by kernel_rfl)) (fun _ _ _ h => h) (Or.inl ⟨by rfl, ?_⟩) ?_ ?_
                   rotate_left
                   ·intro w'
                    go_simp
                    with_reducible rfl
                   rotate_left
                   ·simp only [Act.put, List.setIfInBounds_toArray, List.set_cons_zero, List.set_cons_succ, i64_w, i32_w]
                    rfl
                   refine pure_ (i := 1) (N := some 48) (v := ?_) (a' := ?_) #[true, true, false, false, false, false, false, false, false, false, false, false, false, false] rfl rfl (any_of HT_.out (by kernel_rfl)) (fun _ _ _ h => h) (Or.inl ⟨by rfl, ?_⟩) ?_ ?_
                   rotate_left
                   ·intro w'
                    go_simp
                    with_reducible rfl
                   rotate_left
                   ·simp only [Act.put, List.setIfInBounds_toArray, List.set_cons_zero, List.set_cons_succ, i64_w, i32_w]
                    rfl
                   refine pure_ (i := 2) (N := some 49) (v := ?_) (a' := ?_) #[true, true, true, false, false, false, false, false, false, false, false, false, false, false] rfl rfl (any_of HT_.out (by kernel_rfl)) (fun _ _ _ h => h) (Or.inl ⟨by rfl, ?_⟩) ?_ ?_
                   rotate_left
                   ·intro w'
                    go_simp
                    with_reducible rfl
                   rotate_left
                   ·simp only [Act.put, List.setIfInBounds_toArray, List.set_cons_zero, List.set_cons_succ, i64_w, i32_w]
                    rfl
                   refine pure_ (i := 6) (N := some 53) (v := ?_) (a' := ?_) #[true, true, true, false, false, false, true, false, false, false, false, false, false, false] rfl rfl (any_of HT_.out (by kernel_rfl)) (fun _ _ _ h => h) (Or.inl ⟨by rfl, ?_⟩) ?_ ?_
                   rotate_left
                   ·intro w'
                    go_simp
                    with_reducible rfl
                   rotate_left
                   ·simp only [Act.put, List.setIfInBounds_toArray, List.set_cons_zero, List.set_cons_succ, i64_w, i32_w]
                    rfl
                   refine pure_ (i := 7) (N := some 54) (v := ?_) (a' := ?_) #[true, true, true, false, false, false, true, true, false, false, false, false, false, false] rfl rfl (any_of HT_.out (by kernel_rfl)) (fun _ _ _ h => h) (Or.inl ⟨by rfl, ?_⟩) ?_ ?_
                   rotate_left
                   ·intro w'
                    go_simp
                    with_reducible rfl
                   rotate_left
                   ·simp only [Act.put, List.setIfInBounds_toArray, List.set_cons_zero, List.set_cons_succ, i64_w, i32_w]
                    rfl
                   refine pure_ (i := 8) (N := some 55) (v := ?_) (a' := ?_) #[true, true, true, false, false, false, true, true, true, false, false, false, false, false] rfl rfl (any_of HT_.out (by kernel_rfl)) (fun _ _ _ h => h) (Or.inl ⟨by rfl, ?_⟩) ?_ ?_
                   rotate_left
                   ·intro w'
                    go_simp
                    with_reducible rfl
                   rotate_left
                   ·simp only [Act.put, List.setIfInBounds_toArray, List.set_cons_zero, List.set_cons_succ, i64_w, i32_w]
                    rfl
                   refine take_ (i := 3) (N := some 50) (v := ?_) (a' := ?_) #[true, true, true, true, false, false, true, true, true, false, false, false, false, false] rfl rfl (take_ofW HT_.out HW_.out (by kernel_rfl)) (fun _ _ _ h => h) (Or.inl ⟨by rfl, ?_⟩) hHeld ?_ ?_
                   rotate_left
                   ·rintro w' ⟨s0, s1, s2, s3⟩
                    go_simp
                    with_reducible rfl
                   rotate_left
                   ·simp only [Act.put, List.setIfInBounds_toArray, List.set_cons_zero, List.set_cons_succ, i64_w, i32_w]
                    rfl
                   refine pure_ (i := 4) (N := some 51) (v := ?_) (a' := ?_) #[true, true, true, true, true, false, true, true, true, false, false, false, false, false] rfl rfl (any_of HT_.out (by kernel_rfl)) (fun _ _ _ h => h) (Or.inl ⟨by rfl, ?_⟩) ?_ ?_
                   rotate_left
                   ·intro w'
                    go_simp
                    with_reducible rfl
                   rotate_left
                   ·simp only [Act.put, List.setIfInBounds_toArray, List.set_cons_zero, List.set_cons_succ, i64_w, i32_w]
                    rfl
                   refine take_ (i := 5) (N := some 52) (v := ?_) (a' := ?_) #[true, true, true, true, true, true, true, true, true, false, false, false, false, false] rfl rfl (take_ofW HT_.out HW_.out (by kernel_rfl)) (fun _ _ _ h => h) (Or.inl ⟨by rfl, ?_⟩) hHeld ?_ ?_
                   rotate_left
                   ·rintro w' ⟨s0, s1, s2, s3⟩
                    go_simp
                    with_reducible rfl
                   rotate_left
                   ·simp only [Act.put, List.setIfInBounds_toArray, List.set_cons_zero, List.set_cons_succ, i64_w, i32_w]
                    rfl
                   refine take_ (i := 9) (N := some 56) (v := ?_) (a' := ?_) #[true, true, true, true, true, true, true, true, true, true, false, false, false, false] rfl rfl (take_ofW HT_.out HW_.out (by kernel_rfl)) (fun _ _ _ h => h) (Or.inl ⟨by rfl, ?_⟩) hHeld ?_ ?_
                   rotate_left
                   ·rintro w' ⟨s0, s1, s2, s3⟩
                    go_simp
                    with_reducible rfl
                   rotate_left
                   ·simp only [Act.put, List.setIfInBounds_toArray, List.set_cons_zero, List.set_cons_succ, i64_w, i32_w]
                    rfl
                   refine pure_ (i := 10) (N := some 57) (v := ?_) (a' := ?_) #[true, true, true, true, true, true, true, true, true, true, true, false, false, false] rfl rfl (any_of HT_.out (by kernel_rfl)) (fun _ _ _ h => h) (Or.inl ⟨by rfl, ?_⟩) ?_ ?_
                   rotate_left
                   ·intro w'
                    go_simp
                    with_reducible rfl
                   rotate_left
                   ·simp only [Act.put, List.setIfInBounds_toArray, List.set_cons_zero, List.set_cons_succ, i64_w, i32_w]
                    rfl
                   refine take_ (i := 11) (N := some 58) (v := ?_) (a' := ?_) #[true, true, true, true, true, true, true, true, true, true, true, true, false, false] rfl rfl (take_ofW HT_.out HW_.out (by kernel_rfl)) (fun _ _ _ h => h) (Or.inl ⟨by rfl, ?_⟩) hHeld ?_ ?_
                   rotate_left
                   ·rintro w' ⟨s0, s1, s2, s3⟩
                    go_simp
                    with_reducible rfl
                   rotate_left
                   ·simp only [Act.put, List.setIfInBounds_toArray, List.set_cons_zero, List.set_cons_succ, i64_w, i32_w]
                    rfl
                   refine pure_ (i := 12) (N := some 59) (v := ?_) (a' := ?_) #[true, true, true, true, true, true, true, true, true, true, true, true, true, false] rfl rfl (any_of HT_.out (by kernel_rfl)) (fun _ _ _ h => h) (Or.inl ⟨by rfl, ?_⟩) ?_ ?_
                   rotate_left
                   ·intro w'
                    go_simp
                    with_reducible rfl
                   rotate_left
                   ·simp only [Act.put, List.setIfInBounds_toArray, List.set_cons_zero, List.set_cons_succ, i64_w, i32_w]
                    rfl
                   refine pure_ (i := 13) (N := some 12) (v := ?_) (a' := ?_) #[true, true, true, true, true, true, true, true, true, true, true, true, true, true] rfl rfl (any_of HT_.out (by kernel_rfl)) (fun _ _ _ h => h) (Or.inl ⟨by rfl, ?_⟩) ?_ ?_
                   rotate_left
                   ·intro w'
                    go_simp
                    with_reducible rfl
                   rotate_left
                   ·simp only [Act.put, List.setIfInBounds_toArray, List.set_cons_zero, List.set_cons_succ, i64_w, i32_w]
                    rfl
                   refine done_ (done_of HT_.out (by kernel_rfl)) ?_
                   try go_wp2
                   replace HO_8 := xw HO_8
                   replace HB := Aside0.mk (below_drew1 HB.out)
                   have p287 : 0 ≤ (0 : Int) := (by omega)
                   have q287 : 0 < ((rd_L4 l1 x43_3).length : Int) := of_decide_eq_true (by first | (with_reducible assumption) | assumption)
                   obtain ⟨ad287, e287, hx287_0⟩ := Kd.at_int HR282_0.out 0 p287 q287
                   have hw287_0 := hx287_0
                   (try rw [show ((0 : Int)).toNat = 0 from rfl] at hw287_0)
                   (try rw [show 0 * 1 = 0 from rfl] at hw287_0)
                   (try rw [Addr.add_zero'] at hw287_0)
                   obtain rfl : ad283 = ad287 := (by injection e287)
                   have qi287 : (0 < (rd_L4 l1 x43_3).length) = True := eq_true (by omega)
                   (try rw [show ((0 : Int)).toNat = 0 from rfl] at hx287_0)
                   (try rw [Addr.add_zero'] at hx287_0)
                   replace hx287_0 := (HB.out.cell (World.block_lt_of_cell? w _ hx287_0)).trans hx287_0
                   replace p287 := eq_true p287
                   replace q287 := eq_true q287
                   have p288 : 0 ≤ (1 : Int) := (by omega)
                   have q288 : 1 < ((rd_L4 l1 x43_3).length : Int) := of_decide_eq_true (by first | (with_reducible assumption) | assumption)
                   obtain ⟨ad288, e288, hx288_0⟩ := Kd.at_int HR282_0.out 1 p288 q288
                   have hw288_0 := hx288_0
                   (try rw [show ((1 : Int)).toNat = 1 from rfl] at hw288_0)
                   (try rw [show 1 * 1 = 1 from rfl] at hw288_0)
                   (try simp only [Nat.reduceMul, Nat.reduceEqDiff, Go.Addr.add, ↓reduceIte] at hw288_0)
                   obtain rfl : ad283 = ad288 := (by injection e288)
                   (try simp only [show (1 : Int).toNat = 1 from rfl, Nat.reduceMul, Nat.reduceEqDiff, Go.Addr.add, ↓reduceIte] at hx288_0)
                   have qi288 : (1 < (rd_L4 l1 x43_3).length) = True := eq_true (by omega)
                   (try rw [show ((1 : Int)).toNat = 1 from rfl] at hx288_0)
                   replace hx288_0 := (HB.out.cell (World.block_lt_of_cell? w _ hx288_0)).trans hx288_0
                   replace p288 := eq_true p288
                   replace q288 := eq_true q288
                   have p22 : 0 ≤ ((rd (rd_L4 l1 x43_3) 0) : Int) := of_decide_eq_true (by first | (with_reducible assumption) | assumption)
                   have q22 : ((rd (rd_L4 l1 x43_3) 0) : Int) < ((x8_3.length : Int) : Int) := of_decide_eq_true (by first | (with_reducible assumption) | assumption)
                   obtain ⟨go22, co22, eo22, gb22, gl22, cl22, HG22⟩ := Kd.R_form HO_8.out (by omega)
                   (first | cases eo22 | (injection eo22 with ea_ en_ ec_; (first | subst ea_ | (injection ea_ with ea_; subst ea_)); subst ec_; clear en_))
                   have GB22 := Aside0.mk gb22
                   have GG22 := Aside0.mk HG22
                   clear gb22 gl22 HG22
                   (first | simp only [add_plain] at hx284_0 | skip)
                   (first | simp only [add_plain] at hx286_0 | skip)
                   obtain ⟨hx22_0, hf22_0⟩ := Kd.R_celln 0 HO_8.out ((rd (rd_L4 l1 x43_3) 0) : Int) p22 q22
                   replace p22 := eq_true p22
                   replace q22 := eq_true q22
                   have HP27 := Kd.R_putn HO_8.out ((rd (rd_L4 l1 x43_3) 0) : Int) ji21
                   rw [← Ny289.out] at HP27
                   have HQ27 := Aside0.mk HP27
                   clear HP27
                   have p23 : 0 ≤ ((rd (rd_L4 l1 x43_3) 1) : Int) := of_decide_eq_true (by first | (with_reducible assumption) | assumption)
                   have q23 : ((rd (rd_L4 l1 x43_3) 1) : Int) < ((x8_3.length : Int) : Int) := of_decide_eq_true (by first | (with_reducible assumption) | assumption)
                   obtain ⟨hx23_0, hf23_0⟩ := Kd.R_celln 0 HQ27.out ((rd (rd_L4 l1 x43_3) 1) : Int) p23 q23
                   replace p23 := eq_true p23
                   replace q23 := eq_true q23
                   have HP28 := Kd.R_putn HQ27.out ((rd (rd_L4 l1 x43_3) 1) : Int) ji21
                   rw [← Ny290.out] at HP28
                   have HQ28 := Aside0.mk HP28
                   clear HP28
                   refine start_ (n := 14) (S := fun w' => w'.cell? ad283 = some (.int .i64 (rd (rd_L4 l1 x43_3) 0)) ∧ w'.cell? ⟨ad283.block, ad283.off + 1, none⟩ = some (.int .i64 (rd (rd_L4 l1 x43_3) 1))) (ds := [11, 13]) #[false, false, false, false, false, false, false, false, false, false, false, false, false, false] (by kernel_rfl) rfl rfl ⟨((HB.out.cell (World.block_lt_of_cell? w _ hw287_0)).trans hw287_0), ((HB.out.cell (World.block_lt_of_cell? w _ hw288_0)).trans hw288_0)⟩ (fun hHeld => ?_); refine with_tabW impl_GroupsOf.tab16 impl_GroupsOf.bits16 (fun HT_ HW_ => ?_)
                   generalize w24.drew = w26 at HO_8 HB GG22 HQ27 HQ28 hf22_0 hf23_0 hx22_0 hx23_0 hx284_0 hx286_0 hx287_0 hx288_0 hHeld ⊢
                   refine pure_ (i := 0) (N := some 60) (v := ?_) (a' := ?_) #[true, false, false, false, false, false, false, false, false, false, false, false, false, false] rfl rfl (any_of HT_.out (by kernel_rfl)) (fun _ _ _ h => h) (Or.inl ⟨by rfl, ?_⟩) ?_ ?_
                   rotate_left
                   ·intro w'
                    go_simp
                    with_reducible rfl
                   rotate_left
                   ·simp only [Act.put, List.setIfInBounds_toArray, List.set_cons_zero, List.set_cons_succ, i64_w, i32_w]
                    rfl
                   refine pure_ (i := 1) (N := some 61) (v := ?_) (a' := ?_) #[true, true, false, false, false, false, false, false, false, false, false, false, false, false] rfl rfl (any_of HT_.out (by kernel_rfl)) (fun _ _ _ h => h) (Or.inl ⟨by rfl, ?_⟩) ?_ ?_
                   rotate_left
                   ·intro w'
                    go_simp
                    with_reducible rfl
                   rotate_left
                   ·simp only [Act.put, List.setIfInBounds_toArray, List.set_cons_zero, List.set_cons_succ, i64_w, i32_w]
                    rfl
                   refine pure_ (i := 2) (N := some 62) (v := ?_) (a' := ?_) #[true, true, true, false, false, false, false, false, false, false, false, false, false, false] rfl rfl (any_of HT_.out (by kernel_rfl)) (fun _ _ _ h => h) (Or.inl ⟨by rfl, ?_⟩) ?_ ?_
                   rotate_left
                   ·intro w'
                    go_simp
                    with_reducible rfl
                   rotate_left
                   ·simp only [Act.put, List.setIfInBounds_toArray, List.set_cons_zero, List.set_cons_succ, i64_w, i32_w]
                    rfl
                   refine pure_ (i := 4) (N := some 64) (v := ?_) (a' := ?_) #[true, true, true, false, true, false, false, false, false, false, false, false, false, false] rfl rfl (any_of HT_.out (by kernel_rfl)) (fun _ _ _ h => h) (Or.inl ⟨by rfl, ?_⟩) ?_ ?_
                   rotate_left
                   ·intro w'
                    go_simp
                    with_reducible rfl
                   rotate_left
                   ·simp only [Act.put, List.setIfInBounds_toArray, List.set_cons_zero, List.set_cons_succ, i64_w, i32_w]
                    rfl
                   refine pure_ (i := 5) (N := some 65) (v := ?_) (a' := ?_) #[true, true, true, false, true, true, false, false, false, false, false, false, false, false] rfl rfl (any_of HT_.out (by kernel_rfl)) (fun _ _ _ h => h) (Or.inl ⟨by rfl, ?_⟩) ?_ ?_
                   rotate_left
                   ·intro w'
                    go_simp
                    with_reducible rfl
                   rotate_left
                   ·simp only [Act.put, List.setIfInBounds_toArray, List.set_cons_zero, List.set_cons_succ, i64_w, i32_w]
                    rfl
                   refine pure_ (i := 6) (N := some 66) (v := ?_) (a' := ?_) #[true, true, true, false, true, true, true, false, false, false, false, false, false, false] rfl rfl (any_of HT_.out (by kernel_rfl)) (fun _ _ _ h => h) (Or.inl ⟨by rfl, ?_⟩) ?_ ?_
                   rotate_left
                   ·intro w'
                    go_simp
                    with_reducible rfl
                   rotate_left
                   ·simp only [Act.put, List.setIfInBounds_toArray, List.set_cons_zero, List.set_cons_succ, i64_w, i32_w]
                    rfl
                   refine pure_ (i := 8) (N := some 68) (v := ?_) (a' := ?_) #[true, true, true, false, true, true, true, false, true, false, false, false, false, false] rfl rfl (any_of HT_.out (by kernel_rfl)) (fun _ _ _ h => h) (Or.inl ⟨by rfl, ?_⟩) ?_ ?_
                   rotate_left
                   ·intro w'
                    go_simp
                    with_reducible rfl
                   rotate_left
                   ·simp only [Act.put, List.setIfInBounds_toArray, List.set_cons_zero, List.set_cons_succ, i64_w, i32_w]
                    rfl
                   refine pure_ (i := 9) (N := some 69) (v := ?_) (a' := ?_) #[true, true, true, false, true, true, true, false, true, true, false, false, false, false] rfl rfl (any_of HT_.out (by kernel_rfl)) (fun _ _ _ h => h) (Or.inl ⟨by rfl, ?_⟩) ?_ ?_
                   rotate_left
                   ·intro w'
                    go_simp
                    with_reducible rfl
                   rotate_left
                   ·simp only [Act.put, List.setIfInBounds_toArray, List.set_cons_zero, List.set_cons_succ, i64_w, i32_w]
                    rfl
                   refine take_ (i := 3) (N := some 63) (v := ?_) (a' := ?_) #[true, true, true, true, true, true, true, false, true, true, false, false, false, false] rfl rfl (take_ofW HT_.out HW_.out (by kernel_rfl)) (fun _ _ _ h => h) (Or.inl ⟨by rfl, ?_⟩) hHeld ?_ ?_
                   rotate_left
                   ·rintro w' ⟨s0, s1⟩
                    go_simp
                    with_reducible rfl
                   rotate_left
                   ·simp only [Act.put, List.setIfInBounds_toArray, List.set_cons_zero, List.set_cons_succ, i64_w, i32_w]
                    rfl
                   refine take_ (i := 7) (N := some 67) (v := ?_) (a' := ?_) #[true, true, true, true, true, true, true, true, true, true, false, false, false, false] rfl rfl (take_ofW HT_.out HW_.out (by kernel_rfl)) (fun _ _ _ h => h) (Or.inl ⟨by rfl, ?_⟩) hHeld ?_ ?_
                   rotate_left
                   ·rintro w' ⟨s0, s1⟩
                    go_simp
                    with_reducible rfl
                   rotate_left
                   ·simp only [Act.put, List.setIfInBounds_toArray, List.set_cons_zero, List.set_cons_succ, i64_w, i32_w]
                    rfl
                   refine pure_ (i := 10) (N := some 70) (v := ?_) (a' := ?_) #[true, true, true, true, true, true, true, true, true, true, true, false, false, false] rfl rfl (any_of HT_.out (by kernel_rfl)) (fun _ _ _ h => h) (Or.inl ⟨by rfl, ?_⟩) ?_ ?_
                   rotate_left
                   ·intro w'
                    go_simp
                    with_reducible rfl
                   rotate_left
                   ·simp only [Act.put, List.setIfInBounds_toArray, List.set_cons_zero, List.set_cons_succ, i64_w, i32_w]
                    rfl
                   refine last_ (i := 11) (N := none) #[true, true, true, true, true, true, true, true, true, true, true, true, false, false] rfl rfl (one_of HT_.out (by kernel_rfl)) (by decide) (fun K hK => ?_)
                   refine skip_ (w1 := ?_) (by rfl) rfl ?_ ?_
                   rotate_left
                   ·go_simp
                    rfl
                   refine hK.out _ _ ?_
                   clear hK K
                   refine pure_ (i := 12) (N := some 71) (v := ?_) (a' := ?_) #[true, true, true, true, true, true, true, true, true, true, true, true, true, false] rfl rfl (any_of HT_.out (by kernel_rfl)) (fun _ _ _ h => h) (Or.inl ⟨by rfl, ?_⟩) ?_ ?_
                   rotate_left
                   ·intro w'
                    go_simp
                    with_reducible rfl
                   rotate_left
                   ·simp only [Act.put, List.setIfInBounds_toArray, List.set_cons_zero, List.set_cons_succ, i64_w, i32_w]
                    rfl
                   refine last_ (i := 13) (N := none) #[true, true, true, true, true, true, true, true, true, true, true, true, true, true] rfl rfl (one_of HT_.out (by kernel_rfl)) (by decide) (fun K hK => ?_)
                   refine skip_ (w1 := ?_) (by rfl) rfl ?_ ?_
                   rotate_left
                   ·go_simp
                    rfl
                   refine hK.out _ _ ?_
                   clear hK K
                   refine done_ (done_of HT_.out (by kernel_rfl)) ?_
                   try go_wp2
                   go_roundg k3
                   case measure => have := HK1.out; have := HK2.out; have := HK3.out; omega
                   case rel => exact ⟨(y290), (wrap64 (x43_3 + 1)), (by first | rfl | (simp; done) | (simp [*]; done)), H', ⟨by have := HK1.out; have := HK2.out; have := HK3.out; omega⟩, ⟨xr HQ28.out⟩, ⟨xs HB.out⟩⟩
                  ·rw [if_neg c20] at H
                   exact absurd H (by simp)
                 ·rw [if_neg c19] at H
                  exact absurd H (by simp)
                ·rw [if_neg c18] at H
                 exact absurd H (by simp)
               ·rw [if_neg c17] at H
                exact absurd H (by simp)
              ·rw [if_neg c16] at H
               exact absurd H (by simp)
             ·rw [if_neg c15] at H
              exact absurd H (by simp)
            ·rw [if_neg c14] at H
             exact absurd H (by simp)
           ·rw [if_neg c13] at H
            exact absurd H (by simp)
          ·rw [if_neg c12] at H
           have c12b0 : decide (x43_3 < (l1.length : Int)) = false := decide_eq_false c12
           clear c12
           have H' := Aside0.mk H
           clear H
           go_wp2
           go_roundg k3
           case measure => have := HK1.out; have := HK2.out; have := HK3.out; omega
           case rel => exact ⟨(x8_3), (wrap64 (x39_2 + 1)), (by first | rfl | (simp; done) | (simp [*]; done)), H', ⟨by have := HK1.out; have := HK2.out; have := HK3.out; omega⟩, ⟨xr HO_8.out⟩, ⟨xs HB.out⟩⟩
       ·rw [if_neg c11] at H
        have c11b0 : decide (x39_2 < (l0.length : Int)) = false := decide_eq_false c11
        clear c11
        obtain ⟨y291, hy291⟩ : ∃ y_ : List (List Int), y_ = (([] : List (List Int))) := ⟨_, rfl⟩
        replace H : (impl_GroupsOf.l3 k2 x8_2 y291 (l0.length : Int) 0) = some (r1, r2) := by first | (rw [hy291]; with_reducible exact H) | (have H2_ := (Option.bind_some _ _).symm.trans H; rw [hy291]; with_reducible exact H2_) | (have H2_ := (Option.bind_some _ _).symm.trans H; with_reducible exact H2_) | with_reducible exact H | (rw [hy291]; exact H) | exact H
        have Ny291 := Aside0.mk hy291
        clear hy291
        have H' := Aside0.mk H
        clear H
        go_wp2_with (first | ((with_reducible refine gate_dst (N := 74) rfl ?_); refine Kd.S_lit (Kd.slice 3 (Kd.int .i64)) _ 52 ?hg (N := 74) ?hd (xs := ([] : List (List Int))) (inner := []) (ok := fun _ => True) (okp := fun _ => True) ?hr ?hp (fun _ hk => hk) trivial (Below.refl _ _) (Nat.le_refl _) (by simp) ?_; (case hd => rfl); (case hg => rfl); (case hr => first | (go_simp; done) | (go_simp; rfl)); (case hp => exact (Reps.none _ _)); intro v292 w29 ho30 hb hg_ hnew_; clear hg_ hnew_; (first | rw [← Ny291.out] at ho30 | (simp only [Int.reduceToNat] at ho30; rw [← Ny291.out] at ho30)); have HO293 := Aside0.mk (Kd.S_lower (Kd.S_new' ho30 (Kd.R_lt (xr HO_8.out))) (below_size (xs HB.out))); replace HO_8 := xq HO_8 hb; replace HB := xp HB hb; clear hb ho30))
        go_loopg [13, 77] k2 (fun kq v13 v77 w' => ∃ (x13_3 : List (List Int)) (x77_3 : Int), v77 = .int .i64 x77_3 ∧ Aside0 (impl_GroupsOf.l3 kq x8_2 x13_3 (l0.length : Int) x77_3 = some (r1, r2)) ∧ Aside0 (kq ≤ k2) ∧ Aside0 (Kd.R (Kd.int .i64) 3 w' w.heap.size (fun _ => True) u8 x8_2) ∧ Aside0 (Kd.S (Kd.slice 3 (Kd.int .i64)) 52 w' w.heap.size (fun k_ => nV k_ u8) v13 x13_3) ∧ Aside0 (Below w.heap.size w w'))
        case atStart => exact ⟨(y291), (0), (by first | rfl | (simp; done) | (simp [*]; done)), H', ⟨Nat.le_refl _⟩, ⟨xr HO_8.out⟩, ⟨by (with_reducible repeat (first | apply Kd.S_alloc | apply Kd.S_drewN | apply Kd.S_drew)); exact Kd.S_mono HO293.out (fun _ hk => hk.2)⟩, ⟨xs HB.out⟩⟩
        case round =>
         clear H'
         try clear c1
         try clear c2
         try clear p2
         try clear q2
         try clear hx2
         try clear qi2
         try clear hf2
         try clear c3
         try clear c4
         try clear p6
         try clear c8
         try clear c8b0
         try clear c9
         try clear c11
         try clear c11b0
         try clear c12
         try clear c12b0
         try clear c13
         try clear c13b0
         try clear c14
         try clear c14b0
         try clear c15
         try clear c15b0
         try clear c15b1
         try clear c16
         try clear c16b0
         try clear c17
         try clear c17b0
         try clear c18
         try clear c18b0
         try clear c18b1
         try clear c19
         try clear c19b0
         try clear c20
         try clear c20b0
         try clear p22
         try clear q22
         try clear hx22
         try clear hf22
         try clear p23
         try clear q23
         try clear hx23
         try clear hf23
         try clear c28
         try clear p28
         try clear q28
         try clear hx28
         try clear qi28
         try clear hx22_0
         try clear hx23_0
         try clear hx282_0
         try clear hx283_0
         try clear hx284_0
         try clear hx285_0
         try clear hx286_0
         try clear hx287_0
         try clear hx288_0
         try clear p2
         try clear p22
         try clear p23
         try clear p282
         try clear p283
         try clear p284
         try clear p285
         try clear p286
         try clear p287
         try clear p288
         try clear p6
         try clear q22
         try clear q23
         try clear q282
         try clear q283
         try clear q284
         try clear q285
         try clear q286
         try clear q287
         try clear q288
         obtain ⟨x13_3, x77_3, rfl, HA, HK3, HO_8, HO_13, HB⟩ := hrel
         cases gk with
         | zero => exact absurd HA.out (by simp [impl_GroupsOf.l3])
         | succ k3 =>
          have H := HA.out
          clear HA
          simp only [impl_GroupsOf.l3] at H
          by_cases c31 : x77_3 < (l0.length : Int)
          ·rw [if_pos c31] at H
           have c31b0 : decide (x77_3 < (l0.length : Int)) = true := decide_eq_true c31
           clear c31
           obtain ⟨y294, hy294⟩ : ∃ y_ : List Int, y_ = (([] : List Int)) := ⟨_, rfl⟩
           replace H : (impl_GroupsOf.l4 k3 x8_2 x13_3 x77_3 y294 (l0.length : Int) x77_3 x8_2 (x8_2.length : Int) 0) = some (r1, r2) := by first | (rw [hy294]; with_reducible exact H) | (have H2_ := (Option.bind_some _ _).symm.trans H; rw [hy294]; with_reducible exact H2_) | (have H2_ := (Option.bind_some _ _).symm.trans H; with_reducible exact H2_) | with_reducible exact H | (rw [hy294]; exact H) | exact H
           have Ny294 := Aside0.mk hy294
           clear hy294
           have H' := Aside0.mk H
           clear H
           go_wp2_with (first | ((with_reducible refine gate_dst (N := 80) rfl ?_); refine Kd.R_lit (Kd.int .i64) _ 3 ?hg (N := 80) ?hd (xs := ([] : List Int)) (inner := []) (ok := fun _ => True) (okp := fun _ => True) ?hr ?hp (fun _ hk => hk) trivial (Below.refl _ _) (Nat.le_refl _) (by simp) ?_; (case hd => rfl); (case hg => rfl); (case hr => first | (go_simp; done) | (go_simp; rfl)); (case hp => exact (Reps.none _ _)); intro v295 w32 ho33 hb hg_ hnew_; clear hg_ hnew_; (first | rw [← Ny294.out] at ho33 | (simp only [Int.reduceToNat] at ho33; rw [← Ny294.out] at ho33)); replace HO_13 := Aside0.mk (Kd.S_elder' (by (with_reducible repeat (first | apply Kd.S_alloc | apply Kd.S_drewN | apply Kd.S_drew)); exact HO_13.out) (Kd.R_base ho33) hb); have HO296 := Aside0.mk (Kd.R_lower (Kd.R_new' ho33 (Kd.R_lt (xr HO_8.out))) (below_size (xs HB.out))); replace HO_8 := Aside0.mk (Kd.R_elder' (xr HO_8.out) (Kd.R_base ho33) hb); replace HB := xp HB hb; clear hb ho33; obtain ⟨Ao34, co34, eo34⟩ := Kd.R_slice HO_8.out; subst eo34))
           go_loopg [15, 83] k3 (fun kq v15 v83 w' => ∃ (x15_4 : List Int) (x83_4 : Int), v83 = .int .i64 x83_4 ∧ Aside0 (impl_GroupsOf.l4 kq x8_2 x13_3 x77_3 x15_4 (l0.length : Int) x77_3 x8_2 (x8_2.length : Int) x83_4 = some (r1, r2)) ∧ Aside0 (kq ≤ k3) ∧ Aside0 (Kd.R (Kd.int .i64) 3 w' w.heap.size (fun k_ => nV k_ v15) (.slice Ao34 x8_2.length co34) x8_2) ∧ Aside0 (Kd.S (Kd.slice 3 (Kd.int .i64)) 52 w' w.heap.size (fun k_ => nS k_ Ao34 x8_2.length co34 ∧ nV k_ v15 ∧ nS k_ Ao34 x8_2.length co34) u13 x13_3) ∧ Aside0 (Kd.R (Kd.int .i64) 3 w' w.heap.size (fun k_ => nS k_ Ao34 x8_2.length co34 ∧ nS k_ Ao34 x8_2.length co34) v15 x15_4) ∧ Aside0 (Kd.R (Kd.int .i64) 3 w' w.heap.size (fun k_ => nV k_ v15) (.slice Ao34 x8_2.length co34) x8_2) ∧ Aside0 (Below w.heap.size w w'))
           case atStart => exact ⟨(y294), (0), (by first | rfl | (simp; done) | (simp [*]; done)), H', ⟨Nat.le_refl _⟩, ⟨xm HO_8 (fun _ hk => hk.2)⟩, ⟨by (with_reducible repeat (first | apply Kd.S_alloc | apply Kd.S_drewN | apply Kd.S_drew)); exact Kd.S_mono HO_13.out (fun _ hk => ⟨hk.1, ⟨hk.2, hk.1⟩⟩)⟩, ⟨xm HO296 (fun _ hk => ⟨hk.2, hk.2⟩)⟩, ⟨xm HO_8 (fun _ hk => hk.2)⟩, ⟨xs HB.out⟩⟩
           case round =>
            clear H'
            try clear c1
            try clear c2
            try clear p2
            try clear q2
            try clear hx2
            try clear qi2
            try clear hf2
            try clear c3
            try clear c4
            try clear p6
            try clear c8
            try clear c8b0
            try clear c9
            try clear c11
            try clear c11b0
            try clear c12
            try clear c12b0
            try clear c13
            try clear c13b0
            try clear c14
            try clear c14b0
            try clear c15
            try clear c15b0
            try clear c15b1
            try clear c16
            try clear c16b0
            try clear c17
            try clear c17b0
            try clear c18
            try clear c18b0
            try clear c18b1
            try clear c19
            try clear c19b0
            try clear c20
            try clear c20b0
            try clear p22
            try clear q22
            try clear hx22
            try clear hf22
            try clear p23
            try clear q23
            try clear hx23
            try clear hf23
            try clear c28
            try clear p28
            try clear q28
            try clear hx28
            try clear qi28
            try clear c31
            try clear c31b0
            try clear hx22_0
            try clear hx23_0
            try clear hx282_0
            try clear hx283_0
            try clear hx284_0
            try clear hx285_0
            try clear hx286_0
            try clear hx287_0
            try clear hx288_0
            try clear p2
            try clear p22
            try clear p23
            try clear p28
            try clear p282
            try clear p283
            try clear p284
            try clear p285
            try clear p286
            try clear p287
            try clear p288
            try clear p6
            try clear q2
            try clear q22
            try clear q23
            try clear q28
            try clear q282
            try clear q283
            try clear q284
            try clear q285
            try clear q286
            try clear q287
            try clear q288
            obtain ⟨x15_4, x83_4, rfl, HA, HK4, HO_8, HO_13, HO_15, HO_81, HB⟩ := hrel
            cases gk with
            | zero => exact absurd HA.out (by simp [impl_GroupsOf.l4])
            | succ k4 =>
             have H := HA.out
             clear HA
             simp only [impl_GroupsOf.l4] at H
             by_cases c35 : x83_4 < (x8_2.length : Int)
             ·rw [if_pos c35] at H
              have c35b0 : decide (x83_4 < (x8_2.length : Int)) = true := decide_eq_true c35
              clear c35
              by_cases c36 : 0 ≤ x83_4
              ·rw [if_pos c36] at H
               have c36b0 : decide (0 ≤ x83_4) = true := decide_eq_true c36
               clear c36
               by_cases c37 : x83_4 < (x8_2.length : Int)
               ·rw [if_pos c37] at H
                have c37b0 : decide (x83_4 < (x8_2.length : Int)) = true := decide_eq_true c37
                clear c37
                by_cases c38 : (rd x8_2 x83_4) = x77_3
                ·rw [if_pos c38] at H
                 have c38b0 : ((rd x8_2 x83_4) == x77_3) = true := beq_iff_eq.mpr c38
                 have c38b1 : ((rd x8_2 x83_4) != x77_3) = false := bne_eq_false_iff_eq.mpr c38
                 clear c38
                 by_cases c39 : x15_4.length < 17592186044416
                 ·rw [if_pos c39] at H
                  have LMc39 := Aside0.mk c39
                  clear c39
                  obtain ⟨y298, hy298⟩ : ∃ y_ : List Int, y_ = (x15_4 ++ [x83_4]) := ⟨_, rfl⟩
                  replace H : (impl_GroupsOf.l4 k4 x8_2 x13_3 x77_3 y298 (l0.length : Int) x77_3 x8_2 (x8_2.length : Int) (wrap64 (x83_4 + 1))) = some (r1, r2) := by first | (rw [hy298]; with_reducible exact H) | (have H2_ := (Option.bind_some _ _).symm.trans H; rw [hy298]; with_reducible exact H2_) | (have H2_ := (Option.bind_some _ _).symm.trans H; with_reducible exact H2_) | with_reducible exact H | (rw [hy298]; exact H) | exact H
                  have Ny298 := Aside0.mk hy298
                  clear hy298
                  have H' := Aside0.mk H
                  clear H
                  have p297 : 0 ≤ (x83_4 : Int) := of_decide_eq_true (by first | (with_reducible assumption) | assumption)
                  have q297 : x83_4 < (x8_2.length : Int) := of_decide_eq_true (by first | (with_reducible assumption) | assumption)
                  obtain ⟨ad297, e297, hx297_0⟩ := Kd.at_int (Kd.R_reads' HO_81.out).2.2 x83_4 p297 q297
                  cases e297
                  replace p297 := eq_true p297
                  replace q297 := eq_true q297
                  go_wp2_with (first | ((with_reducible refine gate_builtin (b := .append) (xs := #[.tmp 91, .tmp 93]) rfl ?_); at_builtin; refine Kd.R_append (Kd.int .i64) (w0 := w) w.heap.size rfl (.tmp 91) (.tmp 93) 52 3 (.int .i64 0) 8 rfl Try.underlying52 info3 rfl (by decide) (by omega) u15 x15_4 x83_4 [.int .i64 x83_4] (fun k_ => some k_ ≠ (.slice (some ad297) x8_2.length co34 : Value).ownBlock ∧ some k_ ≠ (.slice (some ad297) x8_2.length co34 : Value).ownBlock) (fun _ => False) rfl rfl ?aP (fun _ hk => hk.elim) ?aF ?aO ?aB ?aS ?aL ?_; (case aP => exact rfl); (case aB => exact (xs HB.out)); (case aF => exact (fun k_ hk => ⟨Kd.fresh' (Kd.R_lt (xr HO_8.out)) k_ hk, Kd.fresh' (Kd.R_lt (xr HO_81.out)) k_ hk⟩)); (case aO => exact (xr HO_15.out)); (case aS => exact (below_size (xs HB.out))); (case aL => have := LMc39.out; omega); intro v299 w40 ho hb hg hat; rw [← Ny298.out] at ho; replace HO_8 := Aside0.mk (Kd.R_after (ok := (fun _ => True)) (xm HO_8 (fun _ hk => ⟨trivial, hk⟩)) hg hat); replace HO_13 := Aside0.mk (Kd.S_after (ok := (fun k_ => some k_ ≠ (.slice (some ad297) x8_2.length co34 : Value).ownBlock ∧ some k_ ≠ (.slice (some ad297) x8_2.length co34 : Value).ownBlock)) (by (with_reducible repeat (first | apply Kd.S_alloc | apply Kd.S_drewN | apply Kd.S_drew)); exact Kd.S_mono HO_13.out (fun _ hk => ⟨⟨hk.1, hk.2.2⟩, hk.2.1⟩)) hg hat); replace HO_81 := Aside0.mk (Kd.R_after (ok := (fun _ => True)) (xm HO_81 (fun _ hk => ⟨trivial, hk⟩)) hg hat); replace HB := Aside0.mk (hb); have HO300 := Aside0.mk (ho); clear HO_15; clear ho hb hg hat))
                  go_roundg k4
                  case measure => have := HK1.out; have := HK2.out; have := HK3.out; have := HK4.out; omega
                  case rel => exact ⟨(y298), (wrap64 (x83_4 + 1)), (by first | rfl | (simp; done) | (simp [*]; done)), H', ⟨by have := HK1.out; have := HK2.out; have := HK3.out; have := HK4.out; omega⟩, ⟨xm HO_8 (fun _ hk => hk.2)⟩, ⟨by (with_reducible repeat (first | apply Kd.S_alloc | apply Kd.S_drewN | apply Kd.S_drew)); exact Kd.S_mono HO_13.out (fun _ hk => ⟨hk.1.1, ⟨hk.2, hk.1.2⟩⟩)⟩, ⟨xr HO300.out⟩, ⟨xm HO_81 (fun _ hk => hk.2)⟩, ⟨xs HB.out⟩⟩
                 ·rw [if_neg c39] at H
                  exact absurd H (by simp)
                ·rw [if_neg c38] at H
                 have c38b0 : ((rd x8_2 x83_4) == x77_3) = false := beq_eq_false_iff_ne.mpr c38
                 have c38b1 : ((rd x8_2 x83_4) != x77_3) = true := bne_iff_ne.mpr c38
                 have H' := Aside0.mk H
                 clear H
                 have p297 : 0 ≤ (x83_4 : Int) := of_decide_eq_true (by first | (with_reducible assumption) | assumption)
                 have q297 : x83_4 < (x8_2.length : Int) := of_decide_eq_true (by first | (with_reducible assumption) | assumption)
                 obtain ⟨ad297, e297, hx297_0⟩ := Kd.at_int (Kd.R_reads' HO_81.out).2.2 x83_4 p297 q297
                 cases e297
                 replace p297 := eq_true p297
                 replace q297 := eq_true q297
                 go_wp2
                 go_roundg k4
                 case measure => have := HK1.out; have := HK2.out; have := HK3.out; have := HK4.out; omega
                 case rel => exact ⟨(x15_4), (wrap64 (x83_4 + 1)), (by first | rfl | (simp; done) | (simp [*]; done)), H', ⟨by have := HK1.out; have := HK2.out; have := HK3.out; have := HK4.out; omega⟩, ⟨xr HO_8.out⟩, ⟨by (with_reducible repeat (first | apply Kd.S_alloc | apply Kd.S_drewN | apply Kd.S_drew)); exact HO_13.out⟩, ⟨xr HO_15.out⟩, ⟨xr HO_81.out⟩, ⟨xs HB.out⟩⟩
               ·rw [if_neg c37] at H
                exact absurd H (by simp)
              ·rw [if_neg c36] at H
               exact absurd H (by simp)
             ·rw [if_neg c35] at H
              have c35b0 : decide (x83_4 < (x8_2.length : Int)) = false := decide_eq_false c35
              clear c35
              by_cases c41 : (x15_4.length : Int) > 0
              ·rw [if_pos c41] at H
               have c41b0 : decide (0 < (x15_4.length : Int)) = true := decide_eq_true c41
               have c41b1 : decide (0 < x15_4.length) = true := decide_eq_true (by omega)
               clear c41
               by_cases c42 : x13_3.length < 5864062014805
               ·rw [if_pos c42] at H
                have LMc42 := Aside0.mk c42
                clear c42
                obtain ⟨y301, hy301⟩ : ∃ y_ : List (List Int), y_ = (x13_3 ++ [x15_4]) := ⟨_, rfl⟩
                replace H : (impl_GroupsOf.l3 k4 x8_2 y301 (l0.length : Int) (wrap64 (x77_3 + 1))) = some (r1, r2) := by first | (rw [hy301]; with_reducible exact H) | (have H2_ := (Option.bind_some _ _).symm.trans H; rw [hy301]; with_reducible exact H2_) | (have H2_ := (Option.bind_some _ _).symm.trans H; with_reducible exact H2_) | with_reducible exact H | (rw [hy301]; exact H) | exact H
                have Ny301 := Aside0.mk hy301
                clear hy301
                have H' := Aside0.mk H
                clear H
                obtain ⟨Ao43, co43, eo43⟩ := Kd.R_slice HO_15.out
                subst eo43
                go_wp2_with (first | ((with_reducible refine gate_builtin (b := .append) (xs := #[.tmp 99, .tmp 101]) rfl ?_); at_builtin; refine Kd.S_append (Kd.slice 3 (Kd.int .i64)) (w0 := w) w.heap.size rfl (.tmp 99) (.tmp 101) 34 52 (.slice none 0 0) 24 rfl Try.underlying34 info52 rfl (by decide) (by omega) u13 x13_3 x15_4 [.slice Ao43 x15_4.length co43] (fun k_ => nS k_ Ao34 x8_2.length co34 ∧ nS k_ Ao34 x8_2.length co34) (fun k_ => some k_ = (.slice Ao43 x15_4.length co43 : Value).ownBlock) rfl rfl ?aP (fun k_ hk_ => ((Kd.R_mono (ok' := fun k_ => ((fun k_ => nS k_ Ao34 x8_2.length co34 ∧ nS k_ Ao34 x8_2.length co34)) k_ ∧ nV k_ u13) (Kd.R_apart' (HO_15.out) (Kd.S_typed HO_13.out) (by decide)) (fun k_ hk => ⟨⟨hk.1.1, hk.1.2⟩, hk.2⟩))).1 k_ hk_.symm) ?aF ?aO ?aB ?aS ?aL ?_; (case aP => exact Kd.M_row (Kd.R_mono (Kd.R_tight rfl (Kd.R_mono (ok' := fun k_ => ((fun k_ => nS k_ Ao34 x8_2.length co34 ∧ nS k_ Ao34 x8_2.length co34)) k_ ∧ nV k_ u13) (Kd.R_apart' (HO_15.out) (Kd.S_typed HO_13.out) (by decide)) (fun k_ hk => ⟨⟨hk.1.1, hk.1.2⟩, hk.2⟩))) (fun _ h_ => h_))); (case aB => exact (xs HB.out)); (case aF => exact (fun k_ hk => ⟨Kd.fresh' (Kd.R_lt (xr HO_8.out)) k_ hk, Kd.fresh' (Kd.R_lt (xr HO_81.out)) k_ hk⟩)); (case aO => exact (by (with_reducible repeat (first | apply Kd.S_alloc | apply Kd.S_drewN | apply Kd.S_drew)); exact Kd.S_mono HO_13.out (fun k_ hk => ⟨⟨hk.1, hk.2.2⟩, fun e_ => hk.2.1 e_⟩))); (case aS => exact (below_size (xs HB.out))); (case aL => have := LMc42.out; omega); intro v302 w44 ho hb hg hat; rw [← Ny301.out] at ho; replace HO_8 := Aside0.mk (Kd.R_over' (xr HO_8.out) (Kd.S_typed (by (with_reducible repeat (first | apply Kd.S_alloc | apply Kd.S_drewN | apply Kd.S_drew)); exact HO_13.out)) (by decide) hg); replace HO_81 := Aside0.mk (Kd.R_over' (xr HO_81.out) (Kd.S_typed (by (with_reducible repeat (first | apply Kd.S_alloc | apply Kd.S_drewN | apply Kd.S_drew)); exact HO_13.out)) (by decide) hg); replace HB := Aside0.mk (hb); have HO303 := Aside0.mk (ho); clear HO_13; clear HO_15; clear ho hb hg hat))
                go_roundg k4
                case measure => have := HK1.out; have := HK2.out; have := HK3.out; have := HK4.out; omega
                case rel => exact ⟨(y301), (wrap64 (x77_3 + 1)), (by first | rfl | (simp; done) | (simp [*]; done)), H', ⟨by have := HK1.out; have := HK2.out; have := HK3.out; have := HK4.out; omega⟩, ⟨xm HO_8 (fun _ hk => trivial)⟩, ⟨by (with_reducible repeat (first | apply Kd.S_alloc | apply Kd.S_drewN | apply Kd.S_drew)); exact Kd.S_mono HO303.out (fun _ hk => hk.1)⟩, ⟨xs HB.out⟩⟩
               ·rw [if_neg c42] at H
                exact absurd H (by simp)
              ·rw [if_neg c41] at H
               have c41b0 : decide (0 < (x15_4.length : Int)) = false := decide_eq_false c41
               have c41b1 : decide (0 < x15_4.length) = false := decide_eq_false (by omega)
               clear c41
               have H' := Aside0.mk H
               clear H
               obtain ⟨Ao45, co45, eo45⟩ := Kd.R_slice HO_15.out
               subst eo45
               go_wp2
               go_roundg k4
               case measure => have := HK1.out; have := HK2.out; have := HK3.out; have := HK4.out; omega
               case rel => exact ⟨(x13_3), (wrap64 (x77_3 + 1)), (by first | rfl | (simp; done) | (simp [*]; done)), H', ⟨by have := HK1.out; have := HK2.out; have := HK3.out; have := HK4.out; omega⟩, ⟨xm HO_8 (fun _ hk => trivial)⟩, ⟨by (with_reducible repeat (first | apply Kd.S_alloc | apply Kd.S_drewN | apply Kd.S_drew)); exact Kd.S_mono HO_13.out (fun _ hk => hk.1)⟩, ⟨xs HB.out⟩⟩
          ·rw [if_neg c31] at H
           have c31b0 : decide (x77_3 < (l0.length : Int)) = false := decide_eq_false c31
           clear c31
           simp only [Option.some.injEq, Prod.mk.injEq] at H
           obtain ⟨rfl, rfl⟩ := H
           go_wp2
           go_ret2
           exact ⟨_, by first | rfl | (simp [errW_none, errW_some] <;> rfl) | (simp [*, errW_none, errW_some] <;> rfl), by (with_reducible repeat (first | apply Kd.S_alloc | apply Kd.S_drewN | apply Kd.S_drew)); exact Kd.S_mono HO_13.out (fun _ hk => trivial), by repeat (first | (with_reducible first | exact HB.out | apply below_alloc | apply pw_below_drewN | apply below_drew1) | exact HB.out)⟩
 ·replace c4 := Bool.eq_false_iff.mpr c4
  subst c4
  have H1 : (some (([] : List (List Int)), false)) = some (r1, r2) := by rw [if_neg (show ¬ (false = true) by decide)] at H; exact H
  clear H
  have H := H1
  clear H1
  simp only [Option.some.injEq, Prod.mk.injEq] at H
  obtain ⟨rfl, rfl⟩ := H
  go_enter Try.func37, Try.ntmps37
  go_wp2_with (first | ((with_reducible refine gate_callee (f := 28) rfl ?_); refine goesL_ (some 21) rfl rfl Try.func28 (by kernel_rfl) rfl #[.slice A0 l0.length c0, .slice A1 l1.length c1] rfl (by (try simp only [List.map_toArray, List.map_cons, List.map_nil]); first | done | rfl | (simp only [List.length_drop, List.length_take]; rfl)) ?_; (with_reducible refine (impl_AreJoins.calls _ _ l0 _ _ l1 false t275 _ ?side1 ?side2 ?side3 ?side4 A3.out).mono ?_); (case side1 => exact xd (HR0.out)); (case side2 => exact HC0.out); (case side3 => exact xd (HR1.out)); (case side4 => exact HC1.out); rintro e w46 ⟨rfl, hb⟩; refine ⟨_, rfl, ?_⟩; replace HB := xp HB hb; (try clear hb); (try clear hb2); (try clear hk); (try clear hi)))
  go_ret2
  exact ⟨_, by first | rfl | (simp [errW_none, errW_some] <;> rfl) | (simp [*, errW_none, errW_some] <;> rfl), by first | exact Kd.S_nil _ _ _ _ _ | exact Kd.N_nil _ _ _ _ _ | exact Kd.V_nil _ _ _ _ _ | exact Kd.Q_nil _ _ _ _ _ | exact Kd.R_nil _ _ _ _ _, by repeat (first | (with_reducible first | exact HB.out | apply below_alloc | apply pw_below_drewN | apply below_drew1) | exact HB.out)⟩

end Go.Proofs.Ytedkbaadbnpkoaa.PFnExactGroupLevels

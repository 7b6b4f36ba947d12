/- Lean functions of the Go functions that the law FnExactGroupLevels reaches, and the proofs that the calls come to what they say (made by program). -/
import Derived.Test.YtedkbaadbnpkoaaAb
import Derived.Test.YtedkbaadbnpkoaaPFnExactGroupLevelsx0
import Derived.Test.YtedkbaadbnpkoaaPFnExactGroupLevelsx6
namespace Go.Proofs.Ytedkbaadbnpkoaa.PFnExactGroupLevels
open Go.RowKit Go.Proofs.YtedkbaadbnpkoaaW.PrintWords Go.Proofs.YtedkbaadbnpkoaaW.PrintLast Go.Proofs.YtedkbaadbnpkoaaW.PrintMore Go.Proofs.Ytedkbaadbnpkoaa.Ab
attribute [local go_sem] max2_int min2_int max_two min_two max_three min_three max_four min_four   -- for this text's walks alone
set_option linter.unusedVariables false
set_option linter.unusedSimpArgs false

/-! ### spec_leGroups: function 60 -/
mutual
def spec_leGroups.l0 : Nat → List (List Int) → List Int → Int → Int → Option ((List (List Int)))
  | 0, _, _, _, _ => none
  | k + 1, x1, x5, x21, x22 => if x22 < x21 then (if 0 ≤ x22 then (if x22 < (x5.length : Int) then (spec_leGroups.l0 k x1 (x5.set (x22 : Int).toNat x22) x21 (wrap64 (x22 + 1))) else (none)) else (none)) else (spec_leGroups.l1 k x1 x5 true)
def spec_leGroups.l1 : Nat → List (List Int) → List Int → Bool → Option ((List (List Int)))
  | 0, _, _, _ => none
  | k + 1, x1, x5, x7 => if x7 = true then (spec_leGroups.l2 k x1 x5 false x1 (x1.length : Int) 0) else (spec_leGroups.l4 k x5 ([] : List (List Int)) (x5.length : Int) 0)
def spec_leGroups.l2 : Nat → List (List Int) → List Int → Bool → List (List Int) → Int → Int → Option ((List (List Int)))
  | 0, _, _, _, _, _, _ => none
  | k + 1, x1, x5, x7, x31, x32, x33 => if x33 < x32 then (if 0 ≤ x33 then (if x33 < (x31.length : Int) then (if 0 < ((rd_L4 x31 x33).length : Int) then (if 0 ≤ (rd (rd_L4 x31 x33) 0) then (if (rd (rd_L4 x31 x33) 0) < (x5.length : Int) then (if 1 < ((rd_L4 x31 x33).length : Int) then (if 0 ≤ (rd (rd_L4 x31 x33) 1) then (if (rd (rd_L4 x31 x33) 1) < (x5.length : Int) then ((spec_l1Least.f (rd x5 (rd (rd_L4 x31 x33) 0)) (rd x5 (rd (rd_L4 x31 x33) 1))).bind fun t240 => (spec_leGroups.l3 k x1 x5 x7 t240 x31 x32 x33 (rd_L4 x31 x33) ((rd_L4 x31 x33).length : Int) 0)) else (none)) else (none)) else (none)) else (none)) else (none)) else (none)) else (none)) else (none)) else (spec_leGroups.l1 k x1 x5 x7)
def spec_leGroups.l3 : Nat → List (List Int) → List Int → Bool → Int → List (List Int) → Int → Int → List Int → Int → Int → Option ((List (List Int)))
  | 0, _, _, _, _, _, _, _, _, _, _ => none
  | k + 1, x1, x5, x7, x10, x31, x32, x33, x50, x51, x52 => if x52 < x51 then (if 0 ≤ x52 then (if x52 < (x50.length : Int) then (if 0 ≤ (rd x50 x52) then (if (rd x50 x52) < (x5.length : Int) then (if (rd x5 (rd x50 x52)) > x10 then (spec_leGroups.l3 k x1 (x5.set ((rd x50 x52) : Int).toNat x10) true x10 x31 x32 x33 x50 x51 (wrap64 (x52 + 1))) else (spec_leGroups.l3 k x1 x5 x7 x10 x31 x32 x33 x50 x51 (wrap64 (x52 + 1)))) else (none)) else (none)) else (none)) else (none)) else (spec_leGroups.l2 k x1 x5 x7 x31 x32 (wrap64 (x33 + 1)))
def spec_leGroups.l4 : Nat → List Int → List (List Int) → Int → Int → Option ((List (List Int)))
  | 0, _, _, _, _ => none
  | k + 1, x5, x13, x69, x70 => if x70 < x69 then (if 0 ≤ x70 then (if x70 < (x5.length : Int) then (if (rd x5 x70) = x70 then (spec_leGroups.l5 k x5 x13 x70 ([] : List Int) x69 x70 x5 (x5.length : Int) 0) else (spec_leGroups.l4 k x5 x13 x69 (wrap64 (x70 + 1)))) else (none)) else (none)) else (some x13)
def spec_leGroups.l5 : Nat → List Int → List (List Int) → Int → List Int → Int → Int → List Int → Int → Int → Option ((List (List Int)))
  | 0, _, _, _, _, _, _, _, _, _ => none
  | k + 1, x5, x13, x14, x15, x69, x70, x79, x80, x81 => if x81 < x80 then (if 0 ≤ x81 then (if x81 < (x79.length : Int) then (if (rd x79 x81) = x14 then (if x15.length < 17592186044416 then (spec_leGroups.l5 k x5 x13 x14 (x15 ++ [x81]) x69 x70 x79 x80 (wrap64 (x81 + 1))) else (none)) else (spec_leGroups.l5 k x5 x13 x14 x15 x69 x70 x79 x80 (wrap64 (x81 + 1)))) else (none)) else (none)) else (if x13.length < 5864062014805 then (spec_leGroups.l4 k x5 (x13 ++ [x15]) x69 (wrap64 (x70 + 1))) else (none))
end
def spec_leGroups.f (k : Nat) (a0 : Int) (l1 : List (List Int)) : Option ((List (List Int))) := if 0 ≤ a0 then (if (a0 : Int).toNat ≤ 35184372088832 then ((some (List.replicate (a0 : Int).toNat 0 : List Int)).bind fun y231 => (spec_leGroups.l0 k l1 y231 (y231.length : Int) 0)) else (none)) else (none)
set_option maxHeartbeats 8000000 in
set_option maxRecDepth 100000 in
theorem spec_leGroups.calls (k : Nat) (a0 : Int) (A1 : Option Addr) (c1 : Nat) (l1 : List (List Int)) (r : List (List Int)) (w : World) (hr1 : Kd.C (Kd.slice 3 (Kd.int .i64)) w A1 l1.length l1) (hc1 : l1.length ≤ c1) (h : spec_leGroups.f k a0 l1 = some r) :
  Calls Try.prog 60 #[.int .i64 a0, .slice A1 l1.length c1] w fun e w' => ∃ v0_ : Value, e = .returned (v0_) ∧ Kd.S (Kd.slice 3 (Kd.int .i64)) 52 w' w.heap.size (fun _ => True) v0_ r ∧ Below w.heap.size w w' := by
 have HR1 := Aside0.mk hr1
 have HC1 := Aside0.mk hc1
 clear hr1 hc1
 have HB := Aside0.mk (Below.refl w.heap.size w)
 have H : (if 0 ≤ a0 then (if (a0 : Int).toNat ≤ 35184372088832 then ((some (List.replicate (a0 : Int).toNat 0 : List Int)).bind fun y231 => (spec_leGroups.l0 k l1 y231 (y231.length : Int) 0)) else (none)) else (none)) = some r := h
 clear h
 by_cases c3 : 0 ≤ a0
 ·rw [if_pos c3] at H
  have c3b0 := eq_true c3
  have c3b1 : decide (0 ≤ a0) = true := decide_eq_true c3
  clear c3
  by_cases c4 : (a0 : Int).toNat ≤ 35184372088832
  ·rw [if_pos c4] at H
   have c4b0 := eq_true c4
   have c4b1 : decide ((a0 : Int).toNat ≤ 35184372088832) = true := decide_eq_true c4
   clear c4
   obtain ⟨y231, hy231⟩ : ∃ y_ : List Int, y_ = (List.replicate (a0 : Int).toNat 0) := ⟨_, rfl⟩
   replace H : (spec_leGroups.l0 k l1 y231 (y231.length : Int) 0) = some r := by first | (rw [hy231]; with_reducible exact H) | (have H2_ := (Option.bind_some _ _).symm.trans H; rw [hy231]; with_reducible exact H2_) | (have H2_ := (Option.bind_some _ _).symm.trans H; with_reducible exact H2_) | with_reducible exact H | (rw [hy231]; exact H) | exact H
   have Ny231 := Aside0.mk hy231
   clear hy231
   have H' := Aside0.mk H
   clear H
   go_enter Try.func60, Try.ntmps60
   go_wp2_with (first | ((with_reducible refine gate_dst (N := 19) rfl ?_); refine Kd.R_make (Kd.int .i64) _ 3 rfl (N := 19) rfl 52 _ _ rfl a0 rfl rfl Try.underlying52 (.int .i64 0) 8 info3 rfl (by decide) (by omega) 0 (ok := fun _ => True) (okp := fun _ => True) rfl (fun _ hk => hk) trivial (of_decide_eq_true (by first | (with_reducible assumption) | assumption)) (Nat.le_trans (Nat.mul_le_mul_right _ (of_decide_eq_true (by first | (with_reducible assumption) | assumption) : a0.toNat ≤ 35184372088832)) (by omega)) (Below.refl _ _) (Nat.le_refl _) ?_; intro v232 w5 ho6 hb hg_ hnew_; clear hg_ hnew_; (first | rw [← Ny231.out] at ho6 | (simp only [Int.reduceToNat] at ho6; rw [← Ny231.out] at ho6)); have HO233 := Aside0.mk (Kd.R_lower ho6 (below_size (xs HB.out))); replace HB := xp HB hb; clear hb ho6; obtain ⟨Ao7, co7, eo7⟩ := Kd.R_slice HO233.out; subst eo7))
   repeat (go_quiet (first | ((with_reducible refine gate_dst (N := 19) rfl ?_); refine Kd.R_make (Kd.int .i64) _ 3 rfl (N := 19) rfl 52 _ _ rfl a0 rfl rfl Try.underlying52 (.int .i64 0) 8 info3 rfl (by decide) (by omega) 0 (ok := fun _ => True) (okp := fun _ => True) rfl (fun _ hk => hk) trivial (of_decide_eq_true (by first | (with_reducible assumption) | assumption)) (Nat.le_trans (Nat.mul_le_mul_right _ (of_decide_eq_true (by first | (with_reducible assumption) | assumption) : a0.toNat ≤ 35184372088832)) (by omega)) (Below.refl _ _) (Nat.le_refl _) ?_; intro v232 w5 ho6 hb hg_ hnew_; clear hg_ hnew_; (first | rw [← Ny231.out] at ho6 | (simp only [Int.reduceToNat] at ho6; rw [← Ny231.out] at ho6)); have HO233 := Aside0.mk (Kd.R_lower ho6 (below_size (xs HB.out))); replace HB := xp HB hb; clear hb ho6; obtain ⟨Ao7, co7, eo7⟩ := Kd.R_slice HO233.out; subst eo7)); try go_wp2_with (first | ((with_reducible refine gate_dst (N := 19) rfl ?_); refine Kd.R_make (Kd.int .i64) _ 3 rfl (N := 19) rfl 52 _ _ rfl a0 rfl rfl Try.underlying52 (.int .i64 0) 8 info3 rfl (by decide) (by omega) 0 (ok := fun _ => True) (okp := fun _ => True) rfl (fun _ hk => hk) trivial (of_decide_eq_true (by first | (with_reducible assumption) | assumption)) (Nat.le_trans (Nat.mul_le_mul_right _ (of_decide_eq_true (by first | (with_reducible assumption) | assumption) : a0.toNat ≤ 35184372088832)) (by omega)) (Below.refl _ _) (Nat.le_refl _) ?_; intro v232 w5 ho6 hb hg_ hnew_; clear hg_ hnew_; (first | rw [← Ny231.out] at ho6 | (simp only [Int.reduceToNat] at ho6; rw [← Ny231.out] at ho6)); have HO233 := Aside0.mk (Kd.R_lower ho6 (below_size (xs HB.out))); replace HB := xp HB hb; clear hb ho6; obtain ⟨Ao7, co7, eo7⟩ := Kd.R_slice HO233.out; subst eo7)))
   go_loopg [22] k (fun kq v22 w' => ∃ (x5_1 : List Int) (x22_1 : Int), v22 = .int .i64 x22_1 ∧ Aside0 (spec_leGroups.l0 kq l1 x5_1 (y231.length : Int) x22_1 = some r) ∧ Aside0 (kq ≤ k) ∧ Aside0 (Kd.R (Kd.int .i64) 3 w' w.heap.size (fun _ => True) (.slice Ao7 y231.length co7) x5_1) ∧ Aside0 (Below w.heap.size w w'))
   case atStart => exact ⟨(y231), (0), (by first | rfl | (simp; done) | (simp [*]; done)), H', ⟨Nat.le_refl _⟩, ⟨xr HO233.out⟩, ⟨xs HB.out⟩⟩
   case round =>
    clear H'
    try clear c1
    try clear p2
    try clear c3
    try clear c3b0
    try clear c3b1
    try clear c4
    try clear c4b0
    try clear c4b1
    try clear c6
    obtain ⟨x5_1, x22_1, rfl, HA, HK1, HO_5, HB⟩ := hrel
    have hl5_1 := (Kd.R_reads' HO_5.out).1
    rw [hl5_1] at HO_5
    (try simp only [hl5_1])
    cases gk with
    | zero => exact absurd HA.out (by simp [spec_leGroups.l0])
    | succ k1 =>
     have H := HA.out
     clear HA
     simp only [spec_leGroups.l0] at H
     by_cases c8 : x22_1 < (y231.length : Int)
     ·rw [if_pos c8] at H
      have c8b0 : decide (x22_1 < (y231.length : Int)) = true := decide_eq_true c8
      (try simp only [hl5_1] at c8b0)
      clear c8
      by_cases c9 : 0 ≤ x22_1
      ·rw [if_pos c9] at H
       have c9b0 : decide (0 ≤ x22_1) = true := decide_eq_true c9
       clear c9
       by_cases c10 : x22_1 < (x5_1.length : Int)
       ·rw [if_pos c10] at H
        have c10b0 : decide (x22_1 < (x5_1.length : Int)) = true := decide_eq_true c10
        (try simp only [hl5_1] at c10b0)
        clear c10
        obtain ⟨y234, hy234⟩ : ∃ y_ : List Int, y_ = (x5_1.set (x22_1 : Int).toNat x22_1) := ⟨_, rfl⟩
        replace H : (spec_leGroups.l0 k1 l1 y234 (y231.length : Int) (wrap64 (x22_1 + 1))) = some r := by first | (rw [hy234]; with_reducible exact H) | (have H2_ := (Option.bind_some _ _).symm.trans H; rw [hy234]; with_reducible exact H2_) | (have H2_ := (Option.bind_some _ _).symm.trans H; with_reducible exact H2_) | with_reducible exact H | (rw [hy234]; exact H) | exact H
        have Ny234 := Aside0.mk hy234
        clear hy234
        have H' := Aside0.mk H
        clear H
        have p11 : 0 ≤ (x22_1 : Int) := of_decide_eq_true (by first | (with_reducible assumption) | assumption)
        have q11 : (x22_1 : Int) < ((x5_1.length : Int) : Int) := of_decide_eq_true (by first | (with_reducible assumption) | assumption)
        obtain ⟨go11, co11, eo11, gb11, gl11, cl11, HG11⟩ := Kd.R_form HO_5.out (by omega)
        (first | cases eo11 | (injection eo11 with ea_ en_ ec_; (first | subst ea_ | (injection ea_ with ea_; subst ea_)); subst ec_; clear en_))
        have GB11 := Aside0.mk gb11
        have GG11 := Aside0.mk HG11
        clear gb11 gl11 HG11
        obtain ⟨hx11_0, hf11_0⟩ := Kd.R_celln 0 HO_5.out (x22_1 : Int) p11 q11
        replace p11 := eq_true p11
        replace q11 := eq_true q11
        have HP12 := Kd.R_putg HO_5.out (x22_1 : Int) x22_1
        go_wp2_with (first | ((with_reducible refine gate_store (t := 3) (p := 28) rfl ?_); (try (rw [drewN_self wr]; generalize hq_ : World.drewN wr _ = wr; have n0_ := Aside0.mk (Kd.R_at hq_ HO_5.out); have n1_ := Aside0.mk (below_at hq_ HB.out); clear hq_ HO_5 HB; have HO_5 := n0_; have HB := n1_; clear n0_ n1_; (try (have HP12 := Kd.R_putg HO_5.out (x22_1 : Int) x22_1)))); refine store_event (t := 3) (p := 28) (v := ?vo_w13) (w1 := (wr.setCell ⟨go11, (x22_1 : Int).toNat, none⟩ (.int .i64 x22_1))) ?hg ?ho ?hn ?hr ?_; (case ho => rfl); (case hg => rfl); (case hn => rfl); (case hr => first | (go_simp; done) | (go_simp; rfl)); intro w13 hw; have hg : wr.grownBy w13 (some go11) := (by rw [hw]; exact HP12.2); have hp_ : Kd.R (Kd.int .i64) 3 w13 w.heap.size (fun _ => True) (.slice (some ⟨go11, 0, none⟩) x5_1.length co7) y234 := (by rw [hw, Ny234.out]; exact HP12.1); clear HP12; replace HO_5 := Aside0.mk (hp_); replace HB := Aside0.mk ((by rw [hw]; exact below_set (HB.out) GB11.out : Below w.heap.size w w13)); clear hg hw hp_))
        repeat (go_quiet (first | ((with_reducible refine gate_store (t := 3) (p := 28) rfl ?_); (try (rw [drewN_self wr]; generalize hq_ : World.drewN wr _ = wr; have n0_ := Aside0.mk (Kd.R_at hq_ HO_5.out); have n1_ := Aside0.mk (below_at hq_ HB.out); clear hq_ HO_5 HB; have HO_5 := n0_; have HB := n1_; clear n0_ n1_; (try (have HP12 := Kd.R_putg HO_5.out (x22_1 : Int) x22_1)))); refine store_event (t := 3) (p := 28) (v := ?vo_w13) (w1 := (wr.setCell ⟨go11, (x22_1 : Int).toNat, none⟩ (.int .i64 x22_1))) ?hg ?ho ?hn ?hr ?_; (case ho => rfl); (case hg => rfl); (case hn => rfl); (case hr => first | (go_simp; done) | (go_simp; rfl)); intro w13 hw; have hg : wr.grownBy w13 (some go11) := (by rw [hw]; exact HP12.2); have hp_ : Kd.R (Kd.int .i64) 3 w13 w.heap.size (fun _ => True) (.slice (some ⟨go11, 0, none⟩) x5_1.length co7) y234 := (by rw [hw, Ny234.out]; exact HP12.1); clear HP12; replace HO_5 := Aside0.mk (hp_); replace HB := Aside0.mk ((by rw [hw]; exact below_set (HB.out) GB11.out : Below w.heap.size w w13)); clear hg hw hp_)); try go_wp2_with (first | ((with_reducible refine gate_store (t := 3) (p := 28) rfl ?_); (try (rw [drewN_self wr]; generalize hq_ : World.drewN wr _ = wr; have n0_ := Aside0.mk (Kd.R_at hq_ HO_5.out); have n1_ := Aside0.mk (below_at hq_ HB.out); clear hq_ HO_5 HB; have HO_5 := n0_; have HB := n1_; clear n0_ n1_; (try (have HP12 := Kd.R_putg HO_5.out (x22_1 : Int) x22_1)))); refine store_event (t := 3) (p := 28) (v := ?vo_w13) (w1 := (wr.setCell ⟨go11, (x22_1 : Int).toNat, none⟩ (.int .i64 x22_1))) ?hg ?ho ?hn ?hr ?_; (case ho => rfl); (case hg => rfl); (case hn => rfl); (case hr => first | (go_simp; done) | (go_simp; rfl)); intro w13 hw; have hg : wr.grownBy w13 (some go11) := (by rw [hw]; exact HP12.2); have hp_ : Kd.R (Kd.int .i64) 3 w13 w.heap.size (fun _ => True) (.slice (some ⟨go11, 0, none⟩) x5_1.length co7) y234 := (by rw [hw, Ny234.out]; exact HP12.1); clear HP12; replace HO_5 := Aside0.mk (hp_); replace HB := Aside0.mk ((by rw [hw]; exact below_set (HB.out) GB11.out : Below w.heap.size w w13)); clear hg hw hp_)))
        (try simp only [← hl5_1])
        go_roundg k1
        case measure => have := HK1.out; omega
        case rel => exact ⟨(y234), (wrap64 (x22_1 + 1)), (by first | rfl | (simp; done) | (simp [*]; done)), H', ⟨by have := HK1.out; omega⟩, ⟨by (try simp only [hl5_1]); (with_reducible repeat (first | apply Kd.R_alloc | apply Kd.R_drewN | apply Kd.R_drew)); exact HO_5.out⟩, ⟨xs HB.out⟩⟩
       ·rw [if_neg c10] at H
        exact absurd H (by simp)
      ·rw [if_neg c9] at H
       exact absurd H (by simp)
     ·rw [if_neg c8] at H
      have c8b0 : decide (x22_1 < (y231.length : Int)) = false := decide_eq_false c8
      (try simp only [hl5_1] at c8b0)
      clear c8
      have H' := Aside0.mk H
      clear H
      go_wp2
      repeat (go_quiet (fail); try go_wp2)
      go_loopg [7] k1 (fun kq v7 w' => ∃ (x5_2 : List Int) (x7_2 : Bool), v7 = .bool x7_2 ∧ Aside0 (spec_leGroups.l1 kq l1 x5_2 x7_2 = some r) ∧ Aside0 (kq ≤ k1) ∧ Aside0 (Kd.R (Kd.int .i64) 3 w' w.heap.size (fun _ => True) (.slice Ao7 x5_1.length co7) x5_2) ∧ Aside0 (Below w.heap.size w w'))
      case atStart => exact ⟨(x5_1), (true), (by first | rfl | (simp; done) | (simp [*]; done)), H', ⟨Nat.le_refl _⟩, ⟨by (try simp only [hl5_1]); (with_reducible repeat (first | apply Kd.R_alloc | apply Kd.R_drewN | apply Kd.R_drew)); exact HO_5.out⟩, ⟨xs HB.out⟩⟩
      case round =>
       clear H'
       try clear c1
       try clear p1
       try clear q1
       try clear hx1
       try clear p2
       try clear c3
       try clear c3b0
       try clear c3b1
       try clear c4
       try clear c4b0
       try clear c4b1
       try clear c6
       try clear p6
       try clear c8
       try clear c8b0
       try clear c9
       try clear c9b0
       try clear c10
       try clear c10b0
       try clear p11
       try clear q11
       try clear hx11
       try clear hf11
       try clear hx11_0
       try clear p11
       try clear p2
       try clear q11
       obtain ⟨x5_2, x7_2, rfl, HA, HK2, HO_5, HB⟩ := hrel
       have hl5_2 := (Kd.R_reads' HO_5.out).1
       rw [hl5_2] at HO_5
       (try simp only [hl5_2])
       cases gk with
       | zero => exact absurd HA.out (by simp [spec_leGroups.l1])
       | succ k2 =>
        have H := HA.out
        clear HA
        simp only [spec_leGroups.l1] at H
        by_cases c14 : x7_2 = true
        ·subst c14
         have H1 : (spec_leGroups.l2 k2 l1 x5_2 false l1 (l1.length : Int) 0) = some r := by rw [if_pos rfl] at H; exact H
         clear H
         have H := H1
         clear H1
         have H' := Aside0.mk H
         clear H
         go_wp2
         repeat (go_quiet (fail); try go_wp2)
         go_loopg [7, 33] k2 (fun kq v7 v33 w' => ∃ (x5_3 : List Int) (x7_3 : Bool) (x33_3 : Int), v7 = .bool x7_3 ∧ v33 = .int .i64 x33_3 ∧ Aside0 (spec_leGroups.l2 kq l1 x5_3 x7_3 l1 (l1.length : Int) x33_3 = some r) ∧ Aside0 (kq ≤ k2) ∧ Aside0 (Kd.R (Kd.int .i64) 3 w' w.heap.size (fun _ => True) (.slice Ao7 x5_2.length co7) x5_3) ∧ Aside0 (Below w.heap.size w w'))
         case atStart => exact ⟨(x5_2), (false), (0), (by first | rfl | (simp; done) | (simp [*]; done)), (by first | rfl | (simp; done) | (simp [*]; done)), H', ⟨Nat.le_refl _⟩, ⟨by (try simp only [hl5_1]); (try simp only [hl5_2]); (with_reducible repeat (first | apply Kd.R_alloc | apply Kd.R_drewN | apply Kd.R_drew)); exact HO_5.out⟩, ⟨xs HB.out⟩⟩
         case round =>
          clear H'
          try clear c1
          try clear p1
          try clear q1
          try clear hx1
          try clear p2
          try clear c3
          try clear c3b0
          try clear c3b1
          try clear c4
          try clear c4b0
          try clear c4b1
          try clear c6
          try clear p6
          try clear c8
          try clear c8b0
          try clear c9
          try clear c9b0
          try clear c10
          try clear c10b0
          try clear p11
          try clear q11
          try clear hx11
          try clear hf11
          try clear c14
          try clear hx11_0
          try clear p1
          try clear p11
          try clear p2
          try clear p6
          try clear q1
          try clear q11
          obtain ⟨x5_3, x7_3, x33_3, rfl, rfl, HA, HK3, HO_5, HB⟩ := hrel
          have hl5_3 := (Kd.R_reads' HO_5.out).1
          rw [hl5_3] at HO_5
          (try simp only [hl5_3])
          cases gk with
          | zero => exact absurd HA.out (by simp [spec_leGroups.l2])
          | succ k3 =>
           have H := HA.out
           clear HA
           simp only [spec_leGroups.l2] at H
           by_cases c15 : x33_3 < (l1.length : Int)
           ·rw [if_pos c15] at H
            have c15b0 : decide (x33_3 < (l1.length : Int)) = true := decide_eq_true c15
            (try simp only [hl5_1, hl5_2, hl5_3] at c15b0)
            clear c15
            by_cases c16 : 0 ≤ x33_3
            ·rw [if_pos c16] at H
             have c16b0 : decide (0 ≤ x33_3) = true := decide_eq_true c16
             clear c16
             by_cases c17 : x33_3 < (l1.length : Int)
             ·rw [if_pos c17] at H
              have c17b0 : decide (x33_3 < (l1.length : Int)) = true := decide_eq_true c17
              (try simp only [hl5_1, hl5_2, hl5_3] at c17b0)
              clear c17
              by_cases c18 : 0 < ((rd_L4 l1 x33_3).length : Int)
              ·rw [if_pos c18] at H
               have c18b0 : decide (0 < ((rd_L4 l1 x33_3).length : Int)) = true := decide_eq_true c18
               have c18b1 : decide (0 < (rd_L4 l1 x33_3).length) = true := decide_eq_true (by omega)
               (try simp only [hl5_1, hl5_2, hl5_3] at c18b0)
               (try simp only [hl5_1, hl5_2, hl5_3] at c18b1)
               clear c18
               by_cases c19 : 0 ≤ (rd (rd_L4 l1 x33_3) 0)
               ·rw [if_pos c19] at H
                have c19b0 : decide (0 ≤ (rd (rd_L4 l1 x33_3) 0)) = true := decide_eq_true c19
                clear c19
                by_cases c20 : (rd (rd_L4 l1 x33_3) 0) < (x5_3.length : Int)
                ·rw [if_pos c20] at H
                 have c20b0 : decide ((rd (rd_L4 l1 x33_3) 0) < (x5_3.length : Int)) = true := decide_eq_true c20
                 (try simp only [hl5_1, hl5_2, hl5_3] at c20b0)
                 clear c20
                 by_cases c21 : 1 < ((rd_L4 l1 x33_3).length : Int)
                 ·rw [if_pos c21] at H
                  have c21b0 : decide (1 < ((rd_L4 l1 x33_3).length : Int)) = true := decide_eq_true c21
                  have c21b1 : decide (1 < (rd_L4 l1 x33_3).length) = true := decide_eq_true (by omega)
                  (try simp only [hl5_1, hl5_2, hl5_3] at c21b0)
                  (try simp only [hl5_1, hl5_2, hl5_3] at c21b1)
                  clear c21
                  by_cases c22 : 0 ≤ (rd (rd_L4 l1 x33_3) 1)
                  ·rw [if_pos c22] at H
                   have c22b0 : decide (0 ≤ (rd (rd_L4 l1 x33_3) 1)) = true := decide_eq_true c22
                   clear c22
                   by_cases c23 : (rd (rd_L4 l1 x33_3) 1) < (x5_3.length : Int)
                   ·rw [if_pos c23] at H
                    have c23b0 : decide ((rd (rd_L4 l1 x33_3) 1) < (x5_3.length : Int)) = true := decide_eq_true c23
                    (try simp only [hl5_1, hl5_2, hl5_3] at c23b0)
                    clear c23
                    replace H := Option.bind_eq_some_iff.mp H
                    obtain ⟨t240, A240, H⟩ := H
                    replace H : (spec_leGroups.l3 k3 l1 x5_3 x7_3 t240 l1 (l1.length : Int) x33_3 (rd_L4 l1 x33_3) ((rd_L4 l1 x33_3).length : Int) 0) = some r := H
                    have A24 := Aside0.mk A240
                    clear A240
                    have H' := Aside0.mk H
                    clear H
                    have p235 : 0 ≤ (x33_3 : Int) := of_decide_eq_true (by first | (with_reducible assumption) | assumption)
                    have q235 : x33_3 < (l1.length : Int) := of_decide_eq_true (by first | (with_reducible assumption) | assumption)
                    obtain ⟨ad235, A235_0, c235_0, e235, hx235_0, hl235_0, hi235_0⟩ := at_L4 HR1.out x33_3 p235 q235
                    cases e235
                    replace hx235_0 := (HB.out.cell (World.block_lt_of_cell? w _ hx235_0)).trans hx235_0
                    have HR235_0 := Aside0.mk hi235_0
                    have HC235_0 := Aside0.mk hl235_0
                    clear hi235_0 hl235_0
                    replace p235 := eq_true p235
                    replace q235 := eq_true q235
                    have p236 : 0 ≤ (0 : Int) := (by omega)
                    have q236 : 0 < ((rd_L4 l1 x33_3).length : Int) := of_decide_eq_true (by first | (with_reducible assumption) | assumption)
                    obtain ⟨ad236, e236, hx236_0⟩ := Kd.at_int HR235_0.out 0 p236 q236
                    cases e236
                    have qi236 : (0 < (rd_L4 l1 x33_3).length) = True := eq_true (by omega)
                    (try rw [show ((0 : Int)).toNat = 0 from rfl] at hx236_0)
                    (try rw [Addr.add_zero'] at hx236_0)
                    replace hx236_0 := (HB.out.cell (World.block_lt_of_cell? w _ hx236_0)).trans hx236_0
                    replace p236 := eq_true p236
                    replace q236 := eq_true q236
                    have p237 : 0 ≤ ((rd (rd_L4 l1 x33_3) 0) : Int) := of_decide_eq_true (by first | (with_reducible assumption) | assumption)
                    have q237 : (rd (rd_L4 l1 x33_3) 0) < (x5_3.length : Int) := of_decide_eq_true (by first | (with_reducible assumption) | assumption)
                    obtain ⟨ad237, e237, hx237_0⟩ := Kd.at_int (Kd.R_reads' HO_5.out).2.2 (rd (rd_L4 l1 x33_3) 0) p237 q237
                    cases e237
                    replace p237 := eq_true p237
                    replace q237 := eq_true q237
                    have p238 : 0 ≤ (1 : Int) := (by omega)
                    have q238 : 1 < ((rd_L4 l1 x33_3).length : Int) := of_decide_eq_true (by first | (with_reducible assumption) | assumption)
                    obtain ⟨ad238, e238, hx238_0⟩ := Kd.at_int HR235_0.out 1 p238 q238
                    obtain rfl : ad236 = ad238 := (by injection e238)
                    (try simp only [show (1 : Int).toNat = 1 from rfl, Nat.reduceMul, Nat.reduceEqDiff, Go.Addr.add, ↓reduceIte] at hx238_0)
                    have qi238 : (1 < (rd_L4 l1 x33_3).length) = True := eq_true (by omega)
                    (try rw [show ((1 : Int)).toNat = 1 from rfl] at hx238_0)
                    replace hx238_0 := (HB.out.cell (World.block_lt_of_cell? w _ hx238_0)).trans hx238_0
                    replace p238 := eq_true p238
                    replace q238 := eq_true q238
                    have p239 : 0 ≤ ((rd (rd_L4 l1 x33_3) 1) : Int) := of_decide_eq_true (by first | (with_reducible assumption) | assumption)
                    have q239 : (rd (rd_L4 l1 x33_3) 1) < (x5_3.length : Int) := of_decide_eq_true (by first | (with_reducible assumption) | assumption)
                    obtain ⟨ad239, e239, hx239_0⟩ := Kd.at_int (Kd.R_reads' HO_5.out).2.2 (rd (rd_L4 l1 x33_3) 1) p239 q239
                    obtain rfl : ad237 = ad239 := (by injection e239)
                    replace p239 := eq_true p239
                    replace q239 := eq_true q239
                    go_wp2_with (first | (go_at_call 92; (with_reducible refine (spec_l1Least.calls (rd x5_3 (rd (rd_L4 l1 x33_3) 0)) (rd x5_3 (rd (rd_L4 l1 x33_3) 1)) t240 _ A24.out).mono ?_); rintro e w' ⟨rfl, ⟨nd, rfl⟩⟩; (try first | exact ⟨rfl, _, World.drewN_drewN _ _ _⟩ | exact ⟨rfl, _, Eq.trans (World.drewN_drewN _ _ _) (congrArg (World.drewN _) (Nat.add_assoc _ _ _))⟩)))
                    repeat (go_quiet (first | (go_at_call 92; (with_reducible refine (spec_l1Least.calls (rd x5_3 (rd (rd_L4 l1 x33_3) 0)) (rd x5_3 (rd (rd_L4 l1 x33_3) 1)) t240 _ A24.out).mono ?_); rintro e w' ⟨rfl, ⟨nd, rfl⟩⟩; (try first | exact ⟨rfl, _, World.drewN_drewN _ _ _⟩ | exact ⟨rfl, _, Eq.trans (World.drewN_drewN _ _ _) (congrArg (World.drewN _) (Nat.add_assoc _ _ _))⟩))); try go_wp2_with (first | (go_at_call 92; (with_reducible refine (spec_l1Least.calls (rd x5_3 (rd (rd_L4 l1 x33_3) 0)) (rd x5_3 (rd (rd_L4 l1 x33_3) 1)) t240 _ A24.out).mono ?_); rintro e w' ⟨rfl, ⟨nd, rfl⟩⟩; (try first | exact ⟨rfl, _, World.drewN_drewN _ _ _⟩ | exact ⟨rfl, _, Eq.trans (World.drewN_drewN _ _ _) (congrArg (World.drewN _) (Nat.add_assoc _ _ _))⟩))))
                    go_loopg [7, 52] k3 (fun kq v7 v52 w' => ∃ (x5_4 : List Int) (x7_4 : Bool) (x52_4 : Int), v7 = .bool x7_4 ∧ v52 = .int .i64 x52_4 ∧ Aside0 (spec_leGroups.l3 kq l1 x5_4 x7_4 t240 l1 (l1.length : Int) x33_3 (rd_L4 l1 x33_3) ((rd_L4 l1 x33_3).length : Int) x52_4 = some r) ∧ Aside0 (kq ≤ k3) ∧ Aside0 (Kd.R (Kd.int .i64) 3 w' w.heap.size (fun _ => True) (.slice (some ad237) x5_3.length co7) x5_4) ∧ Aside0 (Below w.heap.size w w'))
                    case atStart => exact ⟨(x5_3), (x7_3), (0), (by first | rfl | (simp; done) | (simp [*]; done)), (by first | rfl | (simp; done) | (simp [*]; done)), H', ⟨Nat.le_refl _⟩, ⟨by (try simp only [hl5_1]); (try simp only [hl5_2]); (try simp only [hl5_3]); (with_reducible repeat (first | apply Kd.R_alloc | apply Kd.R_drewN | apply Kd.R_drew)); exact HO_5.out⟩, ⟨xs HB.out⟩⟩
                    case round =>
                     clear H'
                     try clear c1
                     try clear p1
                     try clear q1
                     try clear hx1
                     try clear c2
                     try clear p2
                     try clear q2
                     try clear hx2
                     try clear qi2
                     try clear c3
                     try clear c3b0
                     try clear c3b1
                     try clear c4
                     try clear c4b0
                     try clear c4b1
                     try clear c6
                     try clear p6
                     try clear c8
                     try clear c8b0
                     try clear c9
                     try clear c9b0
                     try clear c10
                     try clear c10b0
                     try clear p11
                     try clear q11
                     try clear hx11
                     try clear hf11
                     try clear c14
                     try clear c15
                     try clear c15b0
                     try clear c16
                     try clear c16b0
                     try clear c17
                     try clear c17b0
                     try clear c18
                     try clear c18b0
                     try clear c18b1
                     try clear c19
                     try clear c19b0
                     try clear c20
                     try clear c20b0
                     try clear c21
                     try clear c21b0
                     try clear c21b1
                     try clear c22
                     try clear c22b0
                     try clear c23
                     try clear c23b0
                     try clear p23
                     try clear q23
                     try clear hx23
                     try clear qi23
                     try clear hx11_0
                     try clear hx235_0
                     try clear hx236_0
                     try clear hx237_0
                     try clear hx238_0
                     try clear hx239_0
                     try clear p1
                     try clear p11
                     try clear p2
                     try clear p235
                     try clear p236
                     try clear p237
                     try clear p238
                     try clear p239
                     try clear p6
                     try clear q1
                     try clear q11
                     try clear q235
                     try clear q236
                     try clear q237
                     try clear q238
                     try clear q239
                     obtain ⟨x5_4, x7_4, x52_4, rfl, rfl, HA, HK4, HO_5, HB⟩ := hrel
                     have hl5_4 := (Kd.R_reads' HO_5.out).1
                     rw [hl5_4] at HO_5
                     (try simp only [hl5_4])
                     cases gk with
                     | zero => exact absurd HA.out (by simp [spec_leGroups.l3])
                     | succ k4 =>
                      have H := HA.out
                      clear HA
                      simp only [spec_leGroups.l3] at H
                      by_cases c25 : x52_4 < ((rd_L4 l1 x33_3).length : Int)
                      ·rw [if_pos c25] at H
                       have c25b0 : decide (x52_4 < ((rd_L4 l1 x33_3).length : Int)) = true := decide_eq_true c25
                       (try simp only [hl5_1, hl5_2, hl5_3, hl5_4] at c25b0)
                       clear c25
                       by_cases c26 : 0 ≤ x52_4
                       ·rw [if_pos c26] at H
                        have c26b0 : decide (0 ≤ x52_4) = true := decide_eq_true c26
                        clear c26
                        by_cases c27 : x52_4 < ((rd_L4 l1 x33_3).length : Int)
                        ·rw [if_pos c27] at H
                         have c27b0 : decide (x52_4 < ((rd_L4 l1 x33_3).length : Int)) = true := decide_eq_true c27
                         (try simp only [hl5_1, hl5_2, hl5_3, hl5_4] at c27b0)
                         clear c27
                         by_cases c28 : 0 ≤ (rd (rd_L4 l1 x33_3) x52_4)
                         ·rw [if_pos c28] at H
                          have c28b0 : decide (0 ≤ (rd (rd_L4 l1 x33_3) x52_4)) = true := decide_eq_true c28
                          clear c28
                          by_cases c29 : (rd (rd_L4 l1 x33_3) x52_4) < (x5_4.length : Int)
                          ·rw [if_pos c29] at H
                           have c29b0 : decide ((rd (rd_L4 l1 x33_3) x52_4) < (x5_4.length : Int)) = true := decide_eq_true c29
                           (try simp only [hl5_1, hl5_2, hl5_3, hl5_4] at c29b0)
                           clear c29
                           by_cases c30 : (rd x5_4 (rd (rd_L4 l1 x33_3) x52_4)) > t240
                           ·rw [if_pos c30] at H
                            have c30b0 : decide (t240 < (rd x5_4 (rd (rd_L4 l1 x33_3) x52_4))) = true := decide_eq_true c30
                            clear c30
                            obtain ⟨y243, hy243⟩ : ∃ y_ : List Int, y_ = (x5_4.set ((rd (rd_L4 l1 x33_3) x52_4) : Int).toNat t240) := ⟨_, rfl⟩
                            replace H : (spec_leGroups.l3 k4 l1 y243 true t240 l1 (l1.length : Int) x33_3 (rd_L4 l1 x33_3) ((rd_L4 l1 x33_3).length : Int) (wrap64 (x52_4 + 1))) = some r := by first | (rw [hy243]; with_reducible exact H) | (have H2_ := (Option.bind_some _ _).symm.trans H; rw [hy243]; with_reducible exact H2_) | (have H2_ := (Option.bind_some _ _).symm.trans H; with_reducible exact H2_) | with_reducible exact H | (rw [hy243]; exact H) | exact H
                            have Ny243 := Aside0.mk hy243
                            clear hy243
                            have H' := Aside0.mk H
                            clear H
                            have p241 : 0 ≤ (x52_4 : Int) := of_decide_eq_true (by first | (with_reducible assumption) | assumption)
                            have q241 : x52_4 < ((rd_L4 l1 x33_3).length : Int) := of_decide_eq_true (by first | (with_reducible assumption) | assumption)
                            obtain ⟨ad241, e241, hx241_0⟩ := Kd.at_int HR235_0.out x52_4 p241 q241
                            obtain rfl : ad236 = ad241 := (by injection e241)
                            replace hx241_0 := (HB.out.cell (World.block_lt_of_cell? w _ hx241_0)).trans hx241_0
                            replace p241 := eq_true p241
                            replace q241 := eq_true q241
                            have p242 : 0 ≤ ((rd (rd_L4 l1 x33_3) x52_4) : Int) := of_decide_eq_true (by first | (with_reducible assumption) | assumption)
                            have q242 : (rd (rd_L4 l1 x33_3) x52_4) < (x5_4.length : Int) := of_decide_eq_true (by first | (with_reducible assumption) | assumption)
                            obtain ⟨ad242, e242, hx242_0⟩ := Kd.at_int (Kd.R_reads' HO_5.out).2.2 (rd (rd_L4 l1 x33_3) x52_4) p242 q242
                            obtain rfl : ad237 = ad242 := (by injection e242)
                            replace p242 := eq_true p242
                            replace q242 := eq_true q242
                            have p31 : 0 ≤ ((rd (rd_L4 l1 x33_3) x52_4) : Int) := of_decide_eq_true (by first | (with_reducible assumption) | assumption)
                            have q31 : ((rd (rd_L4 l1 x33_3) x52_4) : Int) < ((x5_4.length : Int) : Int) := of_decide_eq_true (by first | (with_reducible assumption) | assumption)
                            obtain ⟨go31, co31, eo31, gb31, gl31, cl31, HG31⟩ := Kd.R_form HO_5.out (by omega)
                            (first | cases eo31 | (injection eo31 with ea_ en_ ec_; (first | subst ea_ | (injection ea_ with ea_; subst ea_)); subst ec_; clear en_))
                            have GB31 := Aside0.mk gb31
                            have GG31 := Aside0.mk HG31
                            clear gb31 gl31 HG31
                            (first | simp only [add_plain] at hx237_0 | skip)
                            (first | simp only [add_plain] at hx239_0 | skip)
                            (first | simp only [add_plain] at hx242_0 | skip)
                            obtain ⟨hx31_0, hf31_0⟩ := Kd.R_celln 0 HO_5.out ((rd (rd_L4 l1 x33_3) x52_4) : Int) p31 q31
                            replace p31 := eq_true p31
                            replace q31 := eq_true q31
                            have HP32 := Kd.R_putg HO_5.out ((rd (rd_L4 l1 x33_3) x52_4) : Int) t240
                            go_wp2_with (first | ((with_reducible refine gate_store (t := 3) (p := 65) rfl ?_); (try (rw [drewN_self wr]; generalize hq_ : World.drewN wr _ = wr; have n0_ := Aside0.mk (Kd.R_at hq_ HO_5.out); have n1_ := Aside0.mk (below_at hq_ HB.out); clear hq_ HO_5 HB; have HO_5 := n0_; have HB := n1_; clear n0_ n1_; (try (have HP32 := Kd.R_putg HO_5.out ((rd (rd_L4 l1 x33_3) x52_4) : Int) t240)))); refine store_event (t := 3) (p := 65) (v := ?vo_w33) (w1 := (wr.setCell ⟨go31, ((rd (rd_L4 l1 x33_3) x52_4) : Int).toNat, none⟩ (.int .i64 t240))) ?hg ?ho ?hn ?hr ?_; (case ho => rfl); (case hg => rfl); (case hn => rfl); (case hr => first | (go_simp; done) | (go_simp; rfl)); intro w33 hw; have hg : wr.grownBy w33 (some go31) := (by rw [hw]; exact HP32.2); have hp_ : Kd.R (Kd.int .i64) 3 w33 w.heap.size (fun _ => True) (.slice (some ⟨go31, 0, none⟩) x5_4.length co7) y243 := (by rw [hw, Ny243.out]; exact HP32.1); clear HP32; replace HO_5 := Aside0.mk (hp_); replace HB := Aside0.mk ((by rw [hw]; exact below_set (HB.out) GB31.out : Below w.heap.size w w33)); clear hg hw hp_))
                            repeat (go_quiet (first | ((with_reducible refine gate_store (t := 3) (p := 65) rfl ?_); (try (rw [drewN_self wr]; generalize hq_ : World.drewN wr _ = wr; have n0_ := Aside0.mk (Kd.R_at hq_ HO_5.out); have n1_ := Aside0.mk (below_at hq_ HB.out); clear hq_ HO_5 HB; have HO_5 := n0_; have HB := n1_; clear n0_ n1_; (try (have HP32 := Kd.R_putg HO_5.out ((rd (rd_L4 l1 x33_3) x52_4) : Int) t240)))); refine store_event (t := 3) (p := 65) (v := ?vo_w33) (w1 := (wr.setCell ⟨go31, ((rd (rd_L4 l1 x33_3) x52_4) : Int).toNat, none⟩ (.int .i64 t240))) ?hg ?ho ?hn ?hr ?_; (case ho => rfl); (case hg => rfl); (case hn => rfl); (case hr => first | (go_simp; done) | (go_simp; rfl)); intro w33 hw; have hg : wr.grownBy w33 (some go31) := (by rw [hw]; exact HP32.2); have hp_ : Kd.R (Kd.int .i64) 3 w33 w.heap.size (fun _ => True) (.slice (some ⟨go31, 0, none⟩) x5_4.length co7) y243 := (by rw [hw, Ny243.out]; exact HP32.1); clear HP32; replace HO_5 := Aside0.mk (hp_); replace HB := Aside0.mk ((by rw [hw]; exact below_set (HB.out) GB31.out : Below w.heap.size w w33)); clear hg hw hp_)); try go_wp2_with (first | ((with_reducible refine gate_store (t := 3) (p := 65) rfl ?_); (try (rw [drewN_self wr]; generalize hq_ : World.drewN wr _ = wr; have n0_ := Aside0.mk (Kd.R_at hq_ HO_5.out); have n1_ := Aside0.mk (below_at hq_ HB.out); clear hq_ HO_5 HB; have HO_5 := n0_; have HB := n1_; clear n0_ n1_; (try (have HP32 := Kd.R_putg HO_5.out ((rd (rd_L4 l1 x33_3) x52_4) : Int) t240)))); refine store_event (t := 3) (p := 65) (v := ?vo_w33) (w1 := (wr.setCell ⟨go31, ((rd (rd_L4 l1 x33_3) x52_4) : Int).toNat, none⟩ (.int .i64 t240))) ?hg ?ho ?hn ?hr ?_; (case ho => rfl); (case hg => rfl); (case hn => rfl); (case hr => first | (go_simp; done) | (go_simp; rfl)); intro w33 hw; have hg : wr.grownBy w33 (some go31) := (by rw [hw]; exact HP32.2); have hp_ : Kd.R (Kd.int .i64) 3 w33 w.heap.size (fun _ => True) (.slice (some ⟨go31, 0, none⟩) x5_4.length co7) y243 := (by rw [hw, Ny243.out]; exact HP32.1); clear HP32; replace HO_5 := Aside0.mk (hp_); replace HB := Aside0.mk ((by rw [hw]; exact below_set (HB.out) GB31.out : Below w.heap.size w w33)); clear hg hw hp_)))
                            (try simp only [← hl5_4])
                            (try simp only [add_plain] at *)
                            go_roundg k4
                            case measure => have := HK1.out; have := HK2.out; have := HK3.out; have := HK4.out; omega
                            case rel => exact ⟨(y243), (true), (wrap64 (x52_4 + 1)), (by first | rfl | (simp; done) | (simp [*]; done)), (by first | rfl | (simp; done) | (simp [*]; done)), H', ⟨by have := HK1.out; have := HK2.out; have := HK3.out; have := HK4.out; omega⟩, ⟨by (try simp only [hl5_1]); (try simp only [hl5_2]); (try simp only [hl5_3]); (try simp only [hl5_4]); (with_reducible repeat (first | apply Kd.R_alloc | apply Kd.R_drewN | apply Kd.R_drew)); exact HO_5.out⟩, ⟨xs HB.out⟩⟩
                           ·rw [if_neg c30] at H
                            have c30b0 : decide (t240 < (rd x5_4 (rd (rd_L4 l1 x33_3) x52_4))) = false := decide_eq_false c30
                            clear c30
                            have H' := Aside0.mk H
                            clear H
                            have p241 : 0 ≤ (x52_4 : Int) := of_decide_eq_true (by first | (with_reducible assumption) | assumption)
                            have q241 : x52_4 < ((rd_L4 l1 x33_3).length : Int) := of_decide_eq_true (by first | (with_reducible assumption) | assumption)
                            obtain ⟨ad241, e241, hx241_0⟩ := Kd.at_int HR235_0.out x52_4 p241 q241
                            obtain rfl : ad236 = ad241 := (by injection e241)
                            replace hx241_0 := (HB.out.cell (World.block_lt_of_cell? w _ hx241_0)).trans hx241_0
                            replace p241 := eq_true p241
                            replace q241 := eq_true q241
                            have p242 : 0 ≤ ((rd (rd_L4 l1 x33_3) x52_4) : Int) := of_decide_eq_true (by first | (with_reducible assumption) | assumption)
                            have q242 : (rd (rd_L4 l1 x33_3) x52_4) < (x5_4.length : Int) := of_decide_eq_true (by first | (with_reducible assumption) | assumption)
                            obtain ⟨ad242, e242, hx242_0⟩ := Kd.at_int (Kd.R_reads' HO_5.out).2.2 (rd (rd_L4 l1 x33_3) x52_4) p242 q242
                            obtain rfl : ad237 = ad242 := (by injection e242)
                            replace p242 := eq_true p242
                            replace q242 := eq_true q242
                            go_wp2
                            repeat (go_quiet (fail); try go_wp2)
                            (try simp only [← hl5_4])
                            go_roundg k4
                            case measure => have := HK1.out; have := HK2.out; have := HK3.out; have := HK4.out; omega
                            case rel => exact ⟨(x5_4), (x7_4), (wrap64 (x52_4 + 1)), (by first | rfl | (simp; done) | (simp [*]; done)), (by first | rfl | (simp; done) | (simp [*]; done)), H', ⟨by have := HK1.out; have := HK2.out; have := HK3.out; have := HK4.out; omega⟩, ⟨by (try simp only [hl5_1]); (try simp only [hl5_2]); (try simp only [hl5_3]); (try simp only [hl5_4]); (with_reducible repeat (first | apply Kd.R_alloc | apply Kd.R_drewN | apply Kd.R_drew)); exact HO_5.out⟩, ⟨xs HB.out⟩⟩
                          ·rw [if_neg c29] at H
                           exact absurd H (by simp)
                         ·rw [if_neg c28] at H
                          exact absurd H (by simp)
                        ·rw [if_neg c27] at H
                         exact absurd H (by simp)
                       ·rw [if_neg c26] at H
                        exact absurd H (by simp)
                      ·rw [if_neg c25] at H
                       have c25b0 : decide (x52_4 < ((rd_L4 l1 x33_3).length : Int)) = false := decide_eq_false c25
                       (try simp only [hl5_1, hl5_2, hl5_3, hl5_4] at c25b0)
                       clear c25
                       have H' := Aside0.mk H
                       clear H
                       go_wp2
                       repeat (go_quiet (fail); try go_wp2)
                       (try simp only [← hl5_3, ← hl5_4])
                       go_roundg k4
                       case measure => have := HK1.out; have := HK2.out; have := HK3.out; have := HK4.out; omega
                       case rel => exact ⟨(x5_4), (x7_4), (wrap64 (x33_3 + 1)), (by first | rfl | (simp; done) | (simp [*]; done)), (by first | rfl | (simp; done) | (simp [*]; done)), H', ⟨by have := HK1.out; have := HK2.out; have := HK3.out; have := HK4.out; omega⟩, ⟨by (try simp only [hl5_1]); (try simp only [hl5_2]); (try simp only [hl5_3]); (try simp only [hl5_4]); (with_reducible repeat (first | apply Kd.R_alloc | apply Kd.R_drewN | apply Kd.R_drew)); exact HO_5.out⟩, ⟨xs HB.out⟩⟩
                   ·rw [if_neg c23] at H
                    exact absurd H (by simp)
                  ·rw [if_neg c22] at H
                   exact absurd H (by simp)
                 ·rw [if_neg c21] at H
                  exact absurd H (by simp)
                ·rw [if_neg c20] at H
                 exact absurd H (by simp)
               ·rw [if_neg c19] at H
                exact absurd H (by simp)
              ·rw [if_neg c18] at H
               exact absurd H (by simp)
             ·rw [if_neg c17] at H
              exact absurd H (by simp)
            ·rw [if_neg c16] at H
             exact absurd H (by simp)
           ·rw [if_neg c15] at H
            have c15b0 : decide (x33_3 < (l1.length : Int)) = false := decide_eq_false c15
            (try simp only [hl5_1, hl5_2, hl5_3] at c15b0)
            clear c15
            have H' := Aside0.mk H
            clear H
            go_wp2
            repeat (go_quiet (fail); try go_wp2)
            (try simp only [← hl5_2, ← hl5_3])
            go_roundg k3
            case measure => have := HK1.out; have := HK2.out; have := HK3.out; omega
            case rel => exact ⟨(x5_3), (x7_3), (by first | rfl | (simp; done) | (simp [*]; done)), H', ⟨by have := HK1.out; have := HK2.out; have := HK3.out; omega⟩, ⟨by (try simp only [hl5_1]); (try simp only [hl5_2]); (try simp only [hl5_3]); (with_reducible repeat (first | apply Kd.R_alloc | apply Kd.R_drewN | apply Kd.R_drew)); exact HO_5.out⟩, ⟨xs HB.out⟩⟩
        ·replace c14 := Bool.eq_false_iff.mpr c14
         subst c14
         have H1 : (spec_leGroups.l4 k2 x5_2 ([] : List (List Int)) (x5_2.length : Int) 0) = some r := by rw [if_neg (show ¬ (false = true) by decide)] at H; exact H
         clear H
         have H := H1
         clear H1
         have H' := Aside0.mk H
         clear H
         go_wp2
         repeat (go_quiet (fail); try go_wp2)
         go_loopg [13, 70] k2 (fun kq v13 v70 w' => ∃ (x13_3 : List (List Int)) (x70_3 : Int), v70 = .int .i64 x70_3 ∧ Aside0 (spec_leGroups.l4 kq x5_2 x13_3 (x5_2.length : Int) x70_3 = some r) ∧ Aside0 (kq ≤ k2) ∧ Aside0 (Kd.R (Kd.int .i64) 3 w' w.heap.size (fun _ => True) (.slice Ao7 x5_2.length co7) x5_2) ∧ Aside0 (Kd.S (Kd.slice 3 (Kd.int .i64)) 52 w' w.heap.size (fun k_ => nS k_ Ao7 x5_2.length co7) v13 x13_3) ∧ Aside0 (Below w.heap.size w w'))
         case atStart => exact ⟨(([] : List (List Int))), (0), (by first | rfl | (simp; done) | (simp [*]; done)), H', ⟨Nat.le_refl _⟩, ⟨by (try simp only [hl5_1]); (try simp only [hl5_2]); (with_reducible repeat (first | apply Kd.R_alloc | apply Kd.R_drewN | apply Kd.R_drew)); exact HO_5.out⟩, ⟨by (try simp only [hl5_1]); (try simp only [hl5_2]); first | exact Kd.S_nil _ _ _ _ _ | exact Kd.N_nil _ _ _ _ _ | exact Kd.V_nil _ _ _ _ _ | exact Kd.Q_nil _ _ _ _ _ | exact Kd.R_nil _ _ _ _ _⟩, ⟨xs HB.out⟩⟩
         case round =>
          clear H'
          try clear c1
          try clear p1
          try clear q1
          try clear hx1
          try clear c2
          try clear p2
          try clear q2
          try clear hx2
          try clear qi2
          try clear c3
          try clear c3b0
          try clear c3b1
          try clear p3
          try clear q3
          try clear hx3
          try clear hf3
          try clear c4
          try clear c4b0
          try clear c4b1
          try clear c6
          try clear p6
          try clear c8
          try clear c8b0
          try clear c9
          try clear c9b0
          try clear c10
          try clear c10b0
          try clear p11
          try clear q11
          try clear hx11
          try clear hf11
          try clear c14
          try clear c15
          try clear c15b0
          try clear c16
          try clear c16b0
          try clear c17
          try clear c17b0
          try clear c18
          try clear c18b0
          try clear c18b1
          try clear c19
          try clear c19b0
          try clear c20
          try clear c20b0
          try clear c21
          try clear c21b0
          try clear c21b1
          try clear c22
          try clear c22b0
          try clear c23
          try clear c23b0
          try clear p23
          try clear q23
          try clear hx23
          try clear qi23
          try clear p24
          try clear q24
          try clear hx24
          try clear c25
          try clear c25b0
          try clear c26
          try clear c26b0
          try clear c27
          try clear c27b0
          try clear c28
          try clear c28b0
          try clear c29
          try clear c29b0
          try clear c30
          try clear c30b0
          try clear p31
          try clear q31
          try clear hx31
          try clear hf31
          try clear hx11_0
          try clear hx235_0
          try clear hx236_0
          try clear hx237_0
          try clear hx238_0
          try clear hx239_0
          try clear hx241_0
          try clear hx242_0
          try clear hx31_0
          try clear p1
          try clear p11
          try clear p2
          try clear p23
          try clear p235
          try clear p236
          try clear p237
          try clear p238
          try clear p239
          try clear p241
          try clear p242
          try clear p31
          try clear p6
          try clear q1
          try clear q11
          try clear q2
          try clear q23
          try clear q235
          try clear q236
          try clear q237
          try clear q238
          try clear q239
          try clear q241
          try clear q242
          try clear q31
          obtain ⟨x13_3, x70_3, rfl, HA, HK3, HO_5, HO_13, HB⟩ := hrel
          cases gk with
          | zero => exact absurd HA.out (by simp [spec_leGroups.l4])
          | succ k3 =>
           have H := HA.out
           clear HA
           simp only [spec_leGroups.l4] at H
           by_cases c34 : x70_3 < (x5_2.length : Int)
           ·rw [if_pos c34] at H
            have c34b0 : decide (x70_3 < (x5_2.length : Int)) = true := decide_eq_true c34
            (try simp only [hl5_1, hl5_2] at c34b0)
            clear c34
            by_cases c35 : 0 ≤ x70_3
            ·rw [if_pos c35] at H
             have c35b0 : decide (0 ≤ x70_3) = true := decide_eq_true c35
             clear c35
             by_cases c36 : x70_3 < (x5_2.length : Int)
             ·rw [if_pos c36] at H
              have c36b0 : decide (x70_3 < (x5_2.length : Int)) = true := decide_eq_true c36
              (try simp only [hl5_1, hl5_2] at c36b0)
              clear c36
              by_cases c37 : (rd x5_2 x70_3) = x70_3
              ·rw [if_pos c37] at H
               have c37b0 : ((rd x5_2 x70_3) == x70_3) = true := beq_iff_eq.mpr c37
               have c37b1 : ((rd x5_2 x70_3) != x70_3) = false := bne_eq_false_iff_eq.mpr c37
               clear c37
               have H' := Aside0.mk H
               clear H
               have p244 : 0 ≤ (x70_3 : Int) := of_decide_eq_true (by first | (with_reducible assumption) | assumption)
               have q244 : x70_3 < (x5_2.length : Int) := of_decide_eq_true (by first | (with_reducible assumption) | assumption)
               obtain ⟨ad244, e244, hx244_0⟩ := Kd.at_int (Kd.R_reads' HO_5.out).2.2 x70_3 p244 q244
               cases e244
               replace p244 := eq_true p244
               replace q244 := eq_true q244
               go_wp2
               repeat (go_quiet (fail); try go_wp2)
               go_loopg [15, 81] k3 (fun kq v15 v81 w' => ∃ (x15_4 : List Int) (x81_4 : Int), v81 = .int .i64 x81_4 ∧ Aside0 (spec_leGroups.l5 kq x5_2 x13_3 x70_3 x15_4 (x5_2.length : Int) x70_3 x5_2 (x5_2.length : Int) x81_4 = some r) ∧ Aside0 (kq ≤ k3) ∧ Aside0 (Kd.R (Kd.int .i64) 3 w' w.heap.size (fun k_ => nV k_ v15) (.slice (some ad244) x5_2.length co7) x5_2) ∧ Aside0 (Kd.S (Kd.slice 3 (Kd.int .i64)) 52 w' w.heap.size (fun k_ => some k_ ≠ ((.slice (some ad244) x5_2.length co7) : Value).ownBlock ∧ nV k_ v15 ∧ some k_ ≠ ((.slice (some ad244) x5_2.length co7) : Value).ownBlock) u13 x13_3) ∧ Aside0 (Kd.R (Kd.int .i64) 3 w' w.heap.size (fun k_ => some k_ ≠ ((.slice (some ad244) x5_2.length co7) : Value).ownBlock ∧ some k_ ≠ ((.slice (some ad244) x5_2.length co7) : Value).ownBlock) v15 x15_4) ∧ Aside0 (Kd.R (Kd.int .i64) 3 w' w.heap.size (fun k_ => nV k_ v15) (.slice (some ad244) x5_2.length co7) x5_2) ∧ Aside0 (Below w.heap.size w w'))
               case atStart => exact ⟨(([] : List Int)), (0), (by first | rfl | (simp; done) | (simp [*]; done)), H', ⟨Nat.le_refl _⟩, ⟨by (try simp only [hl5_1]); (try simp only [hl5_2]); (with_reducible repeat (first | apply Kd.R_alloc | apply Kd.R_drewN | apply Kd.R_drew)); exact Kd.R_mono HO_5.out (fun _ hk => (by simp [Value.ownBlock]))⟩, ⟨by (try simp only [hl5_1]); (try simp only [hl5_2]); (with_reducible repeat (first | apply Kd.S_alloc | apply Kd.S_drewN | apply Kd.S_drew)); exact Kd.S_mono HO_13.out (fun _ hk => ⟨hk, ⟨(by simp [Value.ownBlock]), hk⟩⟩)⟩, ⟨by (try simp only [hl5_1]); (try simp only [hl5_2]); first | exact Kd.R_nil _ _ _ _ _ | exact Kd.N_nil _ _ _ _ _ | exact Kd.V_nil _ _ _ _ _ | exact Kd.Q_nil _ _ _ _ _ | exact Kd.S_nil _ _ _ _ _⟩, ⟨by (try simp only [hl5_1]); (try simp only [hl5_2]); (with_reducible repeat (first | apply Kd.R_alloc | apply Kd.R_drewN | apply Kd.R_drew)); exact Kd.R_mono HO_5.out (fun _ hk => (by simp [Value.ownBlock]))⟩, ⟨xs HB.out⟩⟩
               case round =>
                clear H'
                try clear c1
                try clear p1
                try clear q1
                try clear hx1
                try clear c2
                try clear p2
                try clear q2
                try clear hx2
                try clear qi2
                try clear c3
                try clear c3b0
                try clear c3b1
                try clear p3
                try clear q3
                try clear hx3
                try clear hf3
                try clear c4
                try clear c4b0
                try clear c4b1
                try clear c6
                try clear p6
                try clear c8
                try clear c8b0
                try clear c9
                try clear c9b0
                try clear c10
                try clear c10b0
                try clear p11
                try clear q11
                try clear hx11
                try clear hf11
                try clear c14
                try clear c15
                try clear c15b0
                try clear c16
                try clear c16b0
                try clear c17
                try clear c17b0
                try clear c18
                try clear c18b0
                try clear c18b1
                try clear c19
                try clear c19b0
                try clear c20
                try clear c20b0
                try clear c21
                try clear c21b0
                try clear c21b1
                try clear c22
                try clear c22b0
                try clear c23
                try clear c23b0
                try clear p23
                try clear q23
                try clear hx23
                try clear qi23
                try clear p24
                try clear q24
                try clear hx24
                try clear c25
                try clear c25b0
                try clear c26
                try clear c26b0
                try clear c27
                try clear c27b0
                try clear c28
                try clear c28b0
                try clear c29
                try clear c29b0
                try clear c30
                try clear c30b0
                try clear p31
                try clear q31
                try clear hx31
                try clear hf31
                try clear c34
                try clear c34b0
                try clear c35
                try clear c35b0
                try clear c36
                try clear c36b0
                try clear c37
                try clear c37b0
                try clear c37b1
                try clear hx11_0
                try clear hx235_0
                try clear hx236_0
                try clear hx237_0
                try clear hx238_0
                try clear hx239_0
                try clear hx241_0
                try clear hx242_0
                try clear hx244_0
                try clear hx31_0
                try clear p1
                try clear p11
                try clear p2
                try clear p23
                try clear p235
                try clear p236
                try clear p237
                try clear p238
                try clear p239
                try clear p24
                try clear p241
                try clear p242
                try clear p244
                try clear p3
                try clear p31
                try clear p6
                try clear q1
                try clear q11
                try clear q2
                try clear q23
                try clear q235
                try clear q236
                try clear q237
                try clear q238
                try clear q239
                try clear q24
                try clear q241
                try clear q242
                try clear q244
                try clear q3
                try clear q31
                obtain ⟨x15_4, x81_4, rfl, HA, HK4, HO_5, HO_13, HO_15, HO_79, HB⟩ := hrel
                cases gk with
                | zero => exact absurd HA.out (by simp [spec_leGroups.l5])
                | succ k4 =>
                 have H := HA.out
                 clear HA
                 simp only [spec_leGroups.l5] at H
                 by_cases c38 : x81_4 < (x5_2.length : Int)
                 ·rw [if_pos c38] at H
                  have c38b0 : decide (x81_4 < (x5_2.length : Int)) = true := decide_eq_true c38
                  (try simp only [hl5_1, hl5_2] at c38b0)
                  clear c38
                  by_cases c39 : 0 ≤ x81_4
                  ·rw [if_pos c39] at H
                   have c39b0 : decide (0 ≤ x81_4) = true := decide_eq_true c39
                   clear c39
                   by_cases c40 : x81_4 < (x5_2.length : Int)
                   ·rw [if_pos c40] at H
                    have c40b0 : decide (x81_4 < (x5_2.length : Int)) = true := decide_eq_true c40
                    (try simp only [hl5_1, hl5_2] at c40b0)
                    clear c40
                    by_cases c41 : (rd x5_2 x81_4) = x70_3
                    ·rw [if_pos c41] at H
                     have c41b0 : ((rd x5_2 x81_4) == x70_3) = true := beq_iff_eq.mpr c41
                     have c41b1 : ((rd x5_2 x81_4) != x70_3) = false := bne_eq_false_iff_eq.mpr c41
                     clear c41
                     by_cases c42 : x15_4.length < 17592186044416
                     ·rw [if_pos c42] at H
                      have LMc42 := Aside0.mk c42
                      clear c42
                      obtain ⟨y246, hy246⟩ : ∃ y_ : List Int, y_ = (x15_4 ++ [x81_4]) := ⟨_, rfl⟩
                      replace H : (spec_leGroups.l5 k4 x5_2 x13_3 x70_3 y246 (x5_2.length : Int) x70_3 x5_2 (x5_2.length : Int) (wrap64 (x81_4 + 1))) = some r := by first | (rw [hy246]; with_reducible exact H) | (have H2_ := (Option.bind_some _ _).symm.trans H; rw [hy246]; with_reducible exact H2_) | (have H2_ := (Option.bind_some _ _).symm.trans H; with_reducible exact H2_) | with_reducible exact H | (rw [hy246]; exact H) | exact H
                      have Ny246 := Aside0.mk hy246
                      clear hy246
                      have H' := Aside0.mk H
                      clear H
                      have p245 : 0 ≤ (x81_4 : Int) := of_decide_eq_true (by first | (with_reducible assumption) | assumption)
                      have q245 : x81_4 < (x5_2.length : Int) := of_decide_eq_true (by first | (with_reducible assumption) | assumption)
                      obtain ⟨ad245, e245, hx245_0⟩ := Kd.at_int (Kd.R_reads' HO_79.out).2.2 x81_4 p245 q245
                      obtain rfl : ad244 = ad245 := (by injection e245)
                      replace p245 := eq_true p245
                      replace q245 := eq_true q245
                      go_wp2_with (first | ((with_reducible refine gate_builtin (b := .append) (xs := #[.tmp 89, .tmp 91]) rfl ?_); at_builtin; refine Kd.R_append (Kd.int .i64) (w0 := w) w.heap.size rfl (.tmp 89) (.tmp 91) 52 3 (.int .i64 0) 8 rfl Try.underlying52 info3 rfl (by decide) (by omega) u15 x15_4 x81_4 [.int .i64 x81_4] (fun k_ => some k_ ≠ (.slice (some ad244) x5_2.length co7 : Value).ownBlock ∧ some k_ ≠ (.slice (some ad244) x5_2.length co7 : Value).ownBlock) (fun _ => False) rfl rfl ?aP (fun _ hk => hk.elim) ?aF ?aO ?aB ?aS ?aL ?_; (case aP => exact rfl); (case aB => exact (xs HB.out)); (case aF => exact (fun k_ hk => ⟨Kd.fresh' (Kd.R_lt (xr HO_5.out)) k_ hk, Kd.fresh' (Kd.R_lt (xr HO_79.out)) k_ hk⟩)); (case aO => exact (xr HO_15.out)); (case aS => exact (below_size (xs HB.out))); (case aL => have := LMc42.out; omega); intro v247 w43 ho hb hg hat; rw [← Ny246.out] at ho; replace HO_5 := Aside0.mk (Kd.R_after (ok := (fun _ => True)) (xm HO_5 (fun _ hk => ⟨trivial, hk⟩)) hg hat); replace HO_13 := Aside0.mk (Kd.S_after (ok := (fun k_ => some k_ ≠ (.slice (some ad244) x5_2.length co7 : Value).ownBlock ∧ some k_ ≠ (.slice (some ad244) x5_2.length co7 : Value).ownBlock)) (by (with_reducible repeat (first | apply Kd.S_alloc | apply Kd.S_drewN | apply Kd.S_drew)); exact Kd.S_mono HO_13.out (fun _ hk => ⟨⟨hk.1, hk.2.2⟩, hk.2.1⟩)) hg hat); replace HO_79 := Aside0.mk (Kd.R_after (ok := (fun _ => True)) (xm HO_79 (fun _ hk => ⟨trivial, hk⟩)) hg hat); replace HB := Aside0.mk (hb); have HO248 := Aside0.mk (ho); clear HO_15; clear ho hb hg hat))
                      repeat (go_quiet (first | ((with_reducible refine gate_builtin (b := .append) (xs := #[.tmp 89, .tmp 91]) rfl ?_); at_builtin; refine Kd.R_append (Kd.int .i64) (w0 := w) w.heap.size rfl (.tmp 89) (.tmp 91) 52 3 (.int .i64 0) 8 rfl Try.underlying52 info3 rfl (by decide) (by omega) u15 x15_4 x81_4 [.int .i64 x81_4] (fun k_ => some k_ ≠ (.slice (some ad244) x5_2.length co7 : Value).ownBlock ∧ some k_ ≠ (.slice (some ad244) x5_2.length co7 : Value).ownBlock) (fun _ => False) rfl rfl ?aP (fun _ hk => hk.elim) ?aF ?aO ?aB ?aS ?aL ?_; (case aP => exact rfl); (case aB => exact (xs HB.out)); (case aF => exact (fun k_ hk => ⟨Kd.fresh' (Kd.R_lt (xr HO_5.out)) k_ hk, Kd.fresh' (Kd.R_lt (xr HO_79.out)) k_ hk⟩)); (case aO => exact (xr HO_15.out)); (case aS => exact (below_size (xs HB.out))); (case aL => have := LMc42.out; omega); intro v247 w43 ho hb hg hat; rw [← Ny246.out] at ho; replace HO_5 := Aside0.mk (Kd.R_after (ok := (fun _ => True)) (xm HO_5 (fun _ hk => ⟨trivial, hk⟩)) hg hat); replace HO_13 := Aside0.mk (Kd.S_after (ok := (fun k_ => some k_ ≠ (.slice (some ad244) x5_2.length co7 : Value).ownBlock ∧ some k_ ≠ (.slice (some ad244) x5_2.length co7 : Value).ownBlock)) (by (with_reducible repeat (first | apply Kd.S_alloc | apply Kd.S_drewN | apply Kd.S_drew)); exact Kd.S_mono HO_13.out (fun _ hk => ⟨⟨hk.1, hk.2.2⟩, hk.2.1⟩)) hg hat); replace HO_79 := Aside0.mk (Kd.R_after (ok := (fun _ => True)) (xm HO_79 (fun _ hk => ⟨trivial, hk⟩)) hg hat); replace HB := Aside0.mk (hb); have HO248 := Aside0.mk (ho); clear HO_15; clear ho hb hg hat)); try go_wp2_with (first | ((with_reducible refine gate_builtin (b := .append) (xs := #[.tmp 89, .tmp 91]) rfl ?_); at_builtin; refine Kd.R_append (Kd.int .i64) (w0 := w) w.heap.size rfl (.tmp 89) (.tmp 91) 52 3 (.int .i64 0) 8 rfl Try.underlying52 info3 rfl (by decide) (by omega) u15 x15_4 x81_4 [.int .i64 x81_4] (fun k_ => some k_ ≠ (.slice (some ad244) x5_2.length co7 : Value).ownBlock ∧ some k_ ≠ (.slice (some ad244) x5_2.length co7 : Value).ownBlock) (fun _ => False) rfl rfl ?aP (fun _ hk => hk.elim) ?aF ?aO ?aB ?aS ?aL ?_; (case aP => exact rfl); (case aB => exact (xs HB.out)); (case aF => exact (fun k_ hk => ⟨Kd.fresh' (Kd.R_lt (xr HO_5.out)) k_ hk, Kd.fresh' (Kd.R_lt (xr HO_79.out)) k_ hk⟩)); (case aO => exact (xr HO_15.out)); (case aS => exact (below_size (xs HB.out))); (case aL => have := LMc42.out; omega); intro v247 w43 ho hb hg hat; rw [← Ny246.out] at ho; replace HO_5 := Aside0.mk (Kd.R_after (ok := (fun _ => True)) (xm HO_5 (fun _ hk => ⟨trivial, hk⟩)) hg hat); replace HO_13 := Aside0.mk (Kd.S_after (ok := (fun k_ => some k_ ≠ (.slice (some ad244) x5_2.length co7 : Value).ownBlock ∧ some k_ ≠ (.slice (some ad244) x5_2.length co7 : Value).ownBlock)) (by (with_reducible repeat (first | apply Kd.S_alloc | apply Kd.S_drewN | apply Kd.S_drew)); exact Kd.S_mono HO_13.out (fun _ hk => ⟨⟨hk.1, hk.2.2⟩, hk.2.1⟩)) hg hat); replace HO_79 := Aside0.mk (Kd.R_after (ok := (fun _ => True)) (xm HO_79 (fun _ hk => ⟨trivial, hk⟩)) hg hat); replace HB := Aside0.mk (hb); have HO248 := Aside0.mk (ho); clear HO_15; clear ho hb hg hat)))
                      go_roundg k4
                      case measure => have := HK1.out; have := HK2.out; have := HK3.out; have := HK4.out; omega
                      case rel => exact ⟨(y246), (wrap64 (x81_4 + 1)), (by first | rfl | (simp; done) | (simp [*]; done)), H', ⟨by have := HK1.out; have := HK2.out; have := HK3.out; have := HK4.out; omega⟩, ⟨by (try simp only [hl5_1]); (try simp only [hl5_2]); (with_reducible repeat (first | apply Kd.R_alloc | apply Kd.R_drewN | apply Kd.R_drew)); exact Kd.R_mono HO_5.out (fun _ hk => hk.2)⟩, ⟨by (try simp only [hl5_1]); (try simp only [hl5_2]); (with_reducible repeat (first | apply Kd.S_alloc | apply Kd.S_drewN | apply Kd.S_drew)); exact Kd.S_mono HO_13.out (fun _ hk => ⟨hk.1.1, ⟨hk.2, hk.1.2⟩⟩)⟩, ⟨by (try simp only [hl5_1]); (try simp only [hl5_2]); (with_reducible repeat (first | apply Kd.R_alloc | apply Kd.R_drewN | apply Kd.R_drew)); exact HO248.out⟩, ⟨by (try simp only [hl5_1]); (try simp only [hl5_2]); (with_reducible repeat (first | apply Kd.R_alloc | apply Kd.R_drewN | apply Kd.R_drew)); exact Kd.R_mono HO_79.out (fun _ hk => hk.2)⟩, ⟨xs HB.out⟩⟩
                     ·rw [if_neg c42] at H
                      exact absurd H (by simp)
                    ·rw [if_neg c41] at H
                     have c41b0 : ((rd x5_2 x81_4) == x70_3) = false := beq_eq_false_iff_ne.mpr c41
                     have c41b1 : ((rd x5_2 x81_4) != x70_3) = true := bne_iff_ne.mpr c41
                     have H' := Aside0.mk H
                     clear H
                     have p245 : 0 ≤ (x81_4 : Int) := of_decide_eq_true (by first | (with_reducible assumption) | assumption)
                     have q245 : x81_4 < (x5_2.length : Int) := of_decide_eq_true (by first | (with_reducible assumption) | assumption)
                     obtain ⟨ad245, e245, hx245_0⟩ := Kd.at_int (Kd.R_reads' HO_79.out).2.2 x81_4 p245 q245
                     obtain rfl : ad244 = ad245 := (by injection e245)
                     replace p245 := eq_true p245
                     replace q245 := eq_true q245
                     go_wp2
                     repeat (go_quiet (fail); try go_wp2)
                     go_roundg k4
                     case measure => have := HK1.out; have := HK2.out; have := HK3.out; have := HK4.out; omega
                     case rel => exact ⟨(x15_4), (wrap64 (x81_4 + 1)), (by first | rfl | (simp; done) | (simp [*]; done)), H', ⟨by have := HK1.out; have := HK2.out; have := HK3.out; have := HK4.out; omega⟩, ⟨by (try simp only [hl5_1]); (try simp only [hl5_2]); (with_reducible repeat (first | apply Kd.R_alloc | apply Kd.R_drewN | apply Kd.R_drew)); exact HO_5.out⟩, ⟨by (try simp only [hl5_1]); (try simp only [hl5_2]); (with_reducible repeat (first | apply Kd.S_alloc | apply Kd.S_drewN | apply Kd.S_drew)); exact HO_13.out⟩, ⟨by (try simp only [hl5_1]); (try simp only [hl5_2]); (with_reducible repeat (first | apply Kd.R_alloc | apply Kd.R_drewN | apply Kd.R_drew)); exact HO_15.out⟩, ⟨by (try simp only [hl5_1]); (try simp only [hl5_2]); (with_reducible repeat (first | apply Kd.R_alloc | apply Kd.R_drewN | apply Kd.R_drew)); exact HO_79.out⟩, ⟨xs HB.out⟩⟩
                   ·rw [if_neg c40] at H
                    exact absurd H (by simp)
                  ·rw [if_neg c39] at H
                   exact absurd H (by simp)
                 ·rw [if_neg c38] at H
                  have c38b0 : decide (x81_4 < (x5_2.length : Int)) = false := decide_eq_false c38
                  (try simp only [hl5_1, hl5_2] at c38b0)
                  clear c38
                  by_cases c44 : x13_3.length < 5864062014805
                  ·rw [if_pos c44] at H
                   have LMc44 := Aside0.mk c44
                   clear c44
                   obtain ⟨y249, hy249⟩ : ∃ y_ : List (List Int), y_ = (x13_3 ++ [x15_4]) := ⟨_, rfl⟩
                   replace H : (spec_leGroups.l4 k4 x5_2 y249 (x5_2.length : Int) (wrap64 (x70_3 + 1))) = some r := by first | (rw [hy249]; with_reducible exact H) | (have H2_ := (Option.bind_some _ _).symm.trans H; rw [hy249]; with_reducible exact H2_) | (have H2_ := (Option.bind_some _ _).symm.trans H; with_reducible exact H2_) | with_reducible exact H | (rw [hy249]; exact H) | exact H
                   have Ny249 := Aside0.mk hy249
                   clear hy249
                   have H' := Aside0.mk H
                   clear H
                   obtain ⟨Ao46, co46, eo46⟩ := Kd.R_slice HO_15.out
                   subst eo46
                   go_wp2_with (first | ((with_reducible refine gate_builtin (b := .append) (xs := #[.tmp 94, .tmp 96]) rfl ?_); at_builtin; refine Kd.S_append (Kd.slice 3 (Kd.int .i64)) (w0 := w) w.heap.size rfl (.tmp 94) (.tmp 96) 34 52 (.slice none 0 0) 24 rfl Try.underlying34 info52 rfl (by decide) (by omega) u13 x13_3 x15_4 [.slice Ao46 x15_4.length co46] (fun k_ => some k_ ≠ (.slice (some ad244) x5_2.length co7 : Value).ownBlock ∧ some k_ ≠ (.slice (some ad244) x5_2.length co7 : Value).ownBlock) (fun k_ => some k_ = (.slice Ao46 x15_4.length co46 : Value).ownBlock) rfl rfl ?aP (fun k_ hk_ => ((Kd.R_mono (ok' := fun k_ => ((fun k_ => some k_ ≠ (.slice (some ad244) x5_2.length co7 : Value).ownBlock ∧ some k_ ≠ (.slice (some ad244) x5_2.length co7 : Value).ownBlock)) k_ ∧ nV k_ u13) (Kd.R_apart' (HO_15.out) (Kd.S_typed HO_13.out) (by decide)) (fun k_ hk => ⟨⟨hk.1.1, hk.1.2⟩, hk.2⟩))).1 k_ hk_.symm) ?aF ?aO ?aB ?aS ?aL ?_; (case aP => exact Kd.M_row (Kd.R_mono (Kd.R_tight rfl (Kd.R_mono (ok' := fun k_ => ((fun k_ => some k_ ≠ (.slice (some ad244) x5_2.length co7 : Value).ownBlock ∧ some k_ ≠ (.slice (some ad244) x5_2.length co7 : Value).ownBlock)) k_ ∧ nV k_ u13) (Kd.R_apart' (HO_15.out) (Kd.S_typed HO_13.out) (by decide)) (fun k_ hk => ⟨⟨hk.1.1, hk.1.2⟩, hk.2⟩))) (fun _ h_ => h_))); (case aB => exact (xs HB.out)); (case aF => exact (fun k_ hk => ⟨Kd.fresh' (Kd.R_lt (xr HO_5.out)) k_ hk, Kd.fresh' (Kd.R_lt (xr HO_79.out)) k_ hk⟩)); (case aO => exact (by (with_reducible repeat (first | apply Kd.S_alloc | apply Kd.S_drewN | apply Kd.S_drew)); exact Kd.S_mono HO_13.out (fun k_ hk => ⟨⟨hk.1, hk.2.2⟩, fun e_ => hk.2.1 e_⟩))); (case aS => exact (below_size (xs HB.out))); (case aL => have := LMc44.out; omega); intro v250 w45 ho hb hg hat; rw [← Ny249.out] at ho; replace HO_5 := Aside0.mk (Kd.R_over' (xr HO_5.out) (Kd.S_typed (by (with_reducible repeat (first | apply Kd.S_alloc | apply Kd.S_drewN | apply Kd.S_drew)); exact HO_13.out)) (by decide) hg); replace HO_79 := Aside0.mk (Kd.R_over' (xr HO_79.out) (Kd.S_typed (by (with_reducible repeat (first | apply Kd.S_alloc | apply Kd.S_drewN | apply Kd.S_drew)); exact HO_13.out)) (by decide) hg); replace HB := Aside0.mk (hb); have HO251 := Aside0.mk (ho); clear HO_13; clear HO_15; clear ho hb hg hat))
                   repeat (go_quiet (first | ((with_reducible refine gate_builtin (b := .append) (xs := #[.tmp 94, .tmp 96]) rfl ?_); at_builtin; refine Kd.S_append (Kd.slice 3 (Kd.int .i64)) (w0 := w) w.heap.size rfl (.tmp 94) (.tmp 96) 34 52 (.slice none 0 0) 24 rfl Try.underlying34 info52 rfl (by decide) (by omega) u13 x13_3 x15_4 [.slice Ao46 x15_4.length co46] (fun k_ => some k_ ≠ (.slice (some ad244) x5_2.length co7 : Value).ownBlock ∧ some k_ ≠ (.slice (some ad244) x5_2.length co7 : Value).ownBlock) (fun k_ => some k_ = (.slice Ao46 x15_4.length co46 : Value).ownBlock) rfl rfl ?aP (fun k_ hk_ => ((Kd.R_mono (ok' := fun k_ => ((fun k_ => some k_ ≠ (.slice (some ad244) x5_2.length co7 : Value).ownBlock ∧ some k_ ≠ (.slice (some ad244) x5_2.length co7 : Value).ownBlock)) k_ ∧ nV k_ u13) (Kd.R_apart' (HO_15.out) (Kd.S_typed HO_13.out) (by decide)) (fun k_ hk => ⟨⟨hk.1.1, hk.1.2⟩, hk.2⟩))).1 k_ hk_.symm) ?aF ?aO ?aB ?aS ?aL ?_; (case aP => exact Kd.M_row (Kd.R_mono (Kd.R_tight rfl (Kd.R_mono (ok' := fun k_ => ((fun k_ => some k_ ≠ (.slice (some ad244) x5_2.length co7 : Value).ownBlock ∧ some k_ ≠ (.slice (some ad244) x5_2.length co7 : Value).ownBlock)) k_ ∧ nV k_ u13) (Kd.R_apart' (HO_15.out) (Kd.S_typed HO_13.out) (by decide)) (fun k_ hk => ⟨⟨hk.1.1, hk.1.2⟩, hk.2⟩))) (fun _ h_ => h_))); (case aB => exact (xs HB.out)); (case aF => exact (fun k_ hk => ⟨Kd.fresh' (Kd.R_lt (xr HO_5.out)) k_ hk, Kd.fresh' (Kd.R_lt (xr HO_79.out)) k_ hk⟩)); (case aO => exact (by (with_reducible repeat (first | apply Kd.S_alloc | apply Kd.S_drewN | apply Kd.S_drew)); exact Kd.S_mono HO_13.out (fun k_ hk => ⟨⟨hk.1, hk.2.2⟩, fun e_ => hk.2.1 e_⟩))); (case aS => exact (below_size (xs HB.out))); (case aL => have := LMc44.out; omega); intro v250 w45 ho hb hg hat; rw [← Ny249.out] at ho; replace HO_5 := Aside0.mk (Kd.R_over' (xr HO_5.out) (Kd.S_typed (by (with_reducible repeat (first | apply Kd.S_alloc | apply Kd.S_drewN | apply Kd.S_drew)); exact HO_13.out)) (by decide) hg); replace HO_79 := Aside0.mk (Kd.R_over' (xr HO_79.out) (Kd.S_typed (by (with_reducible repeat (first | apply Kd.S_alloc | apply Kd.S_drewN | apply Kd.S_drew)); exact HO_13.out)) (by decide) hg); replace HB := Aside0.mk (hb); have HO251 := Aside0.mk (ho); clear HO_13; clear HO_15; clear ho hb hg hat)); try go_wp2_with (first | ((with_reducible refine gate_builtin (b := .append) (xs := #[.tmp 94, .tmp 96]) rfl ?_); at_builtin; refine Kd.S_append (Kd.slice 3 (Kd.int .i64)) (w0 := w) w.heap.size rfl (.tmp 94) (.tmp 96) 34 52 (.slice none 0 0) 24 rfl Try.underlying34 info52 rfl (by decide) (by omega) u13 x13_3 x15_4 [.slice Ao46 x15_4.length co46] (fun k_ => some k_ ≠ (.slice (some ad244) x5_2.length co7 : Value).ownBlock ∧ some k_ ≠ (.slice (some ad244) x5_2.length co7 : Value).ownBlock) (fun k_ => some k_ = (.slice Ao46 x15_4.length co46 : Value).ownBlock) rfl rfl ?aP (fun k_ hk_ => ((Kd.R_mono (ok' := fun k_ => ((fun k_ => some k_ ≠ (.slice (some ad244) x5_2.length co7 : Value).ownBlock ∧ some k_ ≠ (.slice (some ad244) x5_2.length co7 : Value).ownBlock)) k_ ∧ nV k_ u13) (Kd.R_apart' (HO_15.out) (Kd.S_typed HO_13.out) (by decide)) (fun k_ hk => ⟨⟨hk.1.1, hk.1.2⟩, hk.2⟩))).1 k_ hk_.symm) ?aF ?aO ?aB ?aS ?aL ?_; (case aP => exact Kd.M_row (Kd.R_mono (Kd.R_tight rfl (Kd.R_mono (ok' := fun k_ => ((fun k_ => some k_ ≠ (.slice (some ad244) x5_2.length co7 : Value).ownBlock ∧ some k_ ≠ (.slice (some ad244) x5_2.length co7 : Value).ownBlock)) k_ ∧ nV k_ u13) (Kd.R_apart' (HO_15.out) (Kd.S_typed HO_13.out) (by decide)) (fun k_ hk => ⟨⟨hk.1.1, hk.1.2⟩, hk.2⟩))) (fun _ h_ => h_))); (case aB => exact (xs HB.out)); (case aF => exact (fun k_ hk => ⟨Kd.fresh' (Kd.R_lt (xr HO_5.out)) k_ hk, Kd.fresh' (Kd.R_lt (xr HO_79.out)) k_ hk⟩)); (case aO => exact (by (with_reducible repeat (first | apply Kd.S_alloc | apply Kd.S_drewN | apply Kd.S_drew)); exact Kd.S_mono HO_13.out (fun k_ hk => ⟨⟨hk.1, hk.2.2⟩, fun e_ => hk.2.1 e_⟩))); (case aS => exact (below_size (xs HB.out))); (case aL => have := LMc44.out; omega); intro v250 w45 ho hb hg hat; rw [← Ny249.out] at ho; replace HO_5 := Aside0.mk (Kd.R_over' (xr HO_5.out) (Kd.S_typed (by (with_reducible repeat (first | apply Kd.S_alloc | apply Kd.S_drewN | apply Kd.S_drew)); exact HO_13.out)) (by decide) hg); replace HO_79 := Aside0.mk (Kd.R_over' (xr HO_79.out) (Kd.S_typed (by (with_reducible repeat (first | apply Kd.S_alloc | apply Kd.S_drewN | apply Kd.S_drew)); exact HO_13.out)) (by decide) hg); replace HB := Aside0.mk (hb); have HO251 := Aside0.mk (ho); clear HO_13; clear HO_15; clear ho hb hg hat)))
                   go_roundg k4
                   case measure => have := HK1.out; have := HK2.out; have := HK3.out; have := HK4.out; omega
                   case rel => exact ⟨(y249), (wrap64 (x70_3 + 1)), (by first | rfl | (simp; done) | (simp [*]; done)), H', ⟨by have := HK1.out; have := HK2.out; have := HK3.out; have := HK4.out; omega⟩, ⟨by (try simp only [hl5_1]); (try simp only [hl5_2]); (with_reducible repeat (first | apply Kd.R_alloc | apply Kd.R_drewN | apply Kd.R_drew)); exact Kd.R_mono HO_5.out (fun _ hk => trivial)⟩, ⟨by (try simp only [hl5_1]); (try simp only [hl5_2]); (with_reducible repeat (first | apply Kd.S_alloc | apply Kd.S_drewN | apply Kd.S_drew)); exact Kd.S_mono HO251.out (fun _ hk => hk.1)⟩, ⟨xs HB.out⟩⟩
                  ·rw [if_neg c44] at H
                   exact absurd H (by simp)
              ·rw [if_neg c37] at H
               have c37b0 : ((rd x5_2 x70_3) == x70_3) = false := beq_eq_false_iff_ne.mpr c37
               have c37b1 : ((rd x5_2 x70_3) != x70_3) = true := bne_iff_ne.mpr c37
               have H' := Aside0.mk H
               clear H
               have p244 : 0 ≤ (x70_3 : Int) := of_decide_eq_true (by first | (with_reducible assumption) | assumption)
               have q244 : x70_3 < (x5_2.length : Int) := of_decide_eq_true (by first | (with_reducible assumption) | assumption)
               obtain ⟨ad244, e244, hx244_0⟩ := Kd.at_int (Kd.R_reads' HO_5.out).2.2 x70_3 p244 q244
               cases e244
               replace p244 := eq_true p244
               replace q244 := eq_true q244
               go_wp2
               repeat (go_quiet (fail); try go_wp2)
               go_roundg k3
               case measure => have := HK1.out; have := HK2.out; have := HK3.out; omega
               case rel => exact ⟨(x13_3), (wrap64 (x70_3 + 1)), (by first | rfl | (simp; done) | (simp [*]; done)), H', ⟨by have := HK1.out; have := HK2.out; have := HK3.out; omega⟩, ⟨by (try simp only [hl5_1]); (try simp only [hl5_2]); (with_reducible repeat (first | apply Kd.R_alloc | apply Kd.R_drewN | apply Kd.R_drew)); exact HO_5.out⟩, ⟨by (try simp only [hl5_1]); (try simp only [hl5_2]); (with_reducible repeat (first | apply Kd.S_alloc | apply Kd.S_drewN | apply Kd.S_drew)); exact HO_13.out⟩, ⟨xs HB.out⟩⟩
             ·rw [if_neg c36] at H
              exact absurd H (by simp)
            ·rw [if_neg c35] at H
             exact absurd H (by simp)
           ·rw [if_neg c34] at H
            have c34b0 : decide (x70_3 < (x5_2.length : Int)) = false := decide_eq_false c34
            (try simp only [hl5_1, hl5_2] at c34b0)
            clear c34
            obtain rfl := Option.some.inj H
            go_wp2
            repeat (go_quiet (fail); try go_wp2)
            go_ret
            exact ⟨_, by first | rfl | (simp [errW_none, errW_some] <;> rfl) | (simp [*, errW_none, errW_some] <;> rfl), by (with_reducible repeat (first | apply Kd.S_alloc | apply Kd.S_drewN | apply Kd.S_drew)); exact Kd.S_mono HO_13.out (fun _ hk => trivial), by repeat (first | (with_reducible first | exact HB.out | apply below_alloc | apply pw_below_drewN | apply below_drew1) | exact HB.out)⟩
  ·rw [if_neg c4] at H
   exact absurd H (by simp)
 ·rw [if_neg c3] at H
  exact absurd H (by simp)

end Go.Proofs.Ytedkbaadbnpkoaa.PFnExactGroupLevels

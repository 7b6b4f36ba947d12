/- Lean functions of the Go functions that the law FnExactIsTraffic reaches, and the proofs that the calls come to what they say (made by program). -/
import Derived.Test.YtmedapafllmhjaaDoorAb
import Derived.Shelf.Strings.SlTrimAscii
import Derived.Ground.NamesProg
import Derived.Test.YtmedapafllmhjaaDoorPFnExactIsTrafficx0
namespace Go.Proofs.YtmedapafllmhjaaDoor.PFnExactIsTraffic
open Go.RowKit Go.Proofs.YtmedapafllmhjaaDoorW.PrintWords Go.Proofs.YtmedapafllmhjaaDoorW.PrintLast Go.Proofs.YtmedapafllmhjaaDoorW.PrintMore Go.Proofs.YtmedapafllmhjaaDoor.Ab
attribute [local go_sem] max2_int min2_int max_two min_two max_three min_three max_four min_four   -- for this text's walks alone
set_option linter.unusedVariables false
set_option linter.unusedSimpArgs false

/-! ### spec_loTraffic: function 26 -/
def spec_loTraffic.l0 : Nat → ByteArray → Int → Option (Bool)
  | 0, _, _ => none
  | k + 1, x0, x3 => if x3 < (x0.size : Int) then (if 0 ≤ x3 then (if (bt x0 x3) = 117 then (spec_loTraffic.l0 k x0 (wrap64 (x3 + 1))) else (if (bt x0 x3) = 100 then (spec_loTraffic.l0 k x0 (wrap64 (x3 + 1))) else (some false))) else (none)) else (some true)
def spec_loTraffic.f (k : Nat) (a0 : ByteArray) : Option (Bool) := if (a0.size : Int) > 40 then (some false) else (spec_loTraffic.l0 k a0 0)
theorem spec_loTraffic.mono_l : ∀ k, (∀ y0 y1, LeO (spec_loTraffic.l0 k y0 y1) (spec_loTraffic.l0 (k + 1) y0 y1))
 | 0 => fun _ _ r h => by simp [spec_loTraffic.l0] at h
 | k + 1 => by
  have ih0 := spec_loTraffic.mono_l k
  ·intro y0 y1
   unfold spec_loTraffic.l0
   repeat' first
   | (with_reducible exact ih0 _ _)
   | (with_reducible exact LeO.refl _)
   | (with_reducible exact LeO.none _)
   | (with_reducible refine LeO.ite ?_ ?_)
   | (with_reducible refine LeO.bind ?_ (fun _ => ?_))
   | exact ih0 _ _
   | exact LeO.none _
   | refine LeO.ite ?_ ?_
   | refine LeO.bind ?_ (fun _ => ?_)
theorem spec_loTraffic.mono : ∀ a0 k, LeO (spec_loTraffic.f k a0) (spec_loTraffic.f (k + 1) a0) := by
 intro a0 k
 have ih0 := spec_loTraffic.mono_l k
 unfold spec_loTraffic.f
 repeat' first
   | (with_reducible exact ih0 _ _)
   | (with_reducible exact LeO.refl _)
   | (with_reducible exact LeO.none _)
   | (with_reducible refine LeO.ite ?_ ?_)
   | (with_reducible refine LeO.bind ?_ (fun _ => ?_))
   | exact ih0 _ _
   | exact LeO.none _
   | refine LeO.ite ?_ ?_
   | refine LeO.bind ?_ (fun _ => ?_)
set_option maxHeartbeats 8000000 in
set_option maxRecDepth 100000 in
theorem spec_loTraffic.calls (k : Nat) (a0 : ByteArray) (r : Bool) (w : World) (h : spec_loTraffic.f k a0 = some r) :
  Calls Tryd.prog 26 #[.string a0] w fun e w' => e = .returned (.bool r) ∧ Drawn0 w w' := by
 have H : (if (a0.size : Int) > 40 then (some false) else (spec_loTraffic.l0 k a0 0)) = some r := h
 clear h
 by_cases c2 : (a0.size : Int) > 40
 ·rw [if_pos c2] at H
  have c2b0 : decide (40 < (a0.size : Int)) = true := decide_eq_true c2
  have c2b1 : decide (40 < a0.size) = true := decide_eq_true (by omega)
  clear c2
  obtain rfl := Option.some.inj H
  go_enter Tryd.func26, Tryd.ntmps26
  go_wp2
  go_ret
  exact ⟨by first | rfl | (simp; done) | (simp [*]; done), by repeat (first | exact Drawn0.refl _ | apply Drawn0.step)⟩
 ·rw [if_neg c2] at H
  have c2b0 : decide (40 < (a0.size : Int)) = false := decide_eq_false c2
  have c2b1 : decide (40 < a0.size) = false := decide_eq_false (by omega)
  clear c2
  have H' := Aside0.mk H
  clear H
  go_enter Tryd.func26, Tryd.ntmps26
  go_wp2
  go_loopg [3] k (fun kq v3 w' => ∃ (x3_1 : Int), v3 = .int .i64 x3_1 ∧ Aside0 (spec_loTraffic.l0 kq a0 x3_1 = some r) ∧ Aside0 (kq ≤ k) ∧ Drawn0 w w')
  case atStart => exact ⟨(0), (by first | rfl | (simp; done) | (simp [*]; done)), H', ⟨Nat.le_refl _⟩, by repeat (first | exact Drawn0.refl _ | apply Drawn0.step)⟩
  case round =>
   clear H'
   try clear c2
   try clear c2b0
   try clear c2b1
   try clear p2
   obtain ⟨x3_1, rfl, HA, HK1, ⟨m1, rfl⟩⟩ := hrel
   cases gk with
   | zero => exact absurd HA.out (by simp [spec_loTraffic.l0])
   | succ k1 =>
    have H := HA.out
    clear HA
    simp only [spec_loTraffic.l0] at H
    by_cases c3 : x3_1 < (a0.size : Int)
    ·rw [if_pos c3] at H
     have c3b0 : decide (x3_1 < (a0.size : Int)) = true := decide_eq_true c3
     clear c3
     by_cases c4 : 0 ≤ x3_1
     ·rw [if_pos c4] at H
      have c4b0 : decide (0 ≤ x3_1) = true := decide_eq_true c4
      clear c4
      by_cases c6 : (bt a0 x3_1) = 117
      ·rw [if_pos c6] at H
       have c6b0 : ((bt a0 x3_1) == 117) = true := beq_iff_eq.mpr c6
       have c6b1 : ((bt a0 x3_1) != 117) = false := bne_eq_false_iff_eq.mpr c6
       clear c6
       have H' := Aside0.mk H
       clear H
       have p5 : 0 ≤ (x3_1 : Int) := of_decide_eq_true (by first | (with_reducible assumption) | assumption)
       have q5 : x3_1 < (a0.size : Int) := of_decide_eq_true (by first | (with_reducible assumption) | assumption)
       have hx5 := bt_at a0 x3_1
       replace p5 := eq_true p5
       replace q5 := eq_true q5
       go_wp2
       go_roundg k1
       case measure => have := HK1.out; omega
       case rel => exact ⟨(wrap64 (x3_1 + 1)), (by first | rfl | (simp; done) | (simp [*]; done)), H', ⟨by have := HK1.out; omega⟩, by repeat (first | exact Drawn0.refl _ | apply Drawn0.step)⟩
      ·rw [if_neg c6] at H
       have c6b0 : ((bt a0 x3_1) == 117) = false := beq_eq_false_iff_ne.mpr c6
       have c6b1 : ((bt a0 x3_1) != 117) = true := bne_iff_ne.mpr c6
       by_cases c8 : (bt a0 x3_1) = 100
       ·rw [if_pos c8] at H
        have c8b0 : ((bt a0 x3_1) == 100) = true := beq_iff_eq.mpr c8
        have c8b1 : ((bt a0 x3_1) != 100) = false := bne_eq_false_iff_eq.mpr c8
        clear c8
        have H' := Aside0.mk H
        clear H
        have p5 : 0 ≤ (x3_1 : Int) := of_decide_eq_true (by first | (with_reducible assumption) | assumption)
        have q5 : x3_1 < (a0.size : Int) := of_decide_eq_true (by first | (with_reducible assumption) | assumption)
        have hx5 := bt_at a0 x3_1
        replace p5 := eq_true p5
        replace q5 := eq_true q5
        have p7 : 0 ≤ (x3_1 : Int) := of_decide_eq_true (by first | (with_reducible assumption) | assumption)
        have q7 : x3_1 < (a0.size : Int) := of_decide_eq_true (by first | (with_reducible assumption) | assumption)
        have hx7 := bt_at a0 x3_1
        replace p7 := eq_true p7
        replace q7 := eq_true q7
        go_wp2
        go_roundg k1
        case measure => have := HK1.out; omega
        case rel => exact ⟨(wrap64 (x3_1 + 1)), (by first | rfl | (simp; done) | (simp [*]; done)), H', ⟨by have := HK1.out; omega⟩, by repeat (first | exact Drawn0.refl _ | apply Drawn0.step)⟩
       ·rw [if_neg c8] at H
        have c8b0 : ((bt a0 x3_1) == 100) = false := beq_eq_false_iff_ne.mpr c8
        have c8b1 : ((bt a0 x3_1) != 100) = true := bne_iff_ne.mpr c8
        obtain rfl := Option.some.inj H
        have p5 : 0 ≤ (x3_1 : Int) := of_decide_eq_true (by first | (with_reducible assumption) | assumption)
        have q5 : x3_1 < (a0.size : Int) := of_decide_eq_true (by first | (with_reducible assumption) | assumption)
        have hx5 := bt_at a0 x3_1
        replace p5 := eq_true p5
        replace q5 := eq_true q5
        have p7 : 0 ≤ (x3_1 : Int) := of_decide_eq_true (by first | (with_reducible assumption) | assumption)
        have q7 : x3_1 < (a0.size : Int) := of_decide_eq_true (by first | (with_reducible assumption) | assumption)
        have hx7 := bt_at a0 x3_1
        replace p7 := eq_true p7
        replace q7 := eq_true q7
        go_wp2
        go_ret
        exact ⟨by first | rfl | (simp; done) | (simp [*]; done), by repeat (first | exact Drawn0.refl _ | apply Drawn0.step)⟩
     ·rw [if_neg c4] at H
      exact absurd H (by simp)
    ·rw [if_neg c3] at H
     have c3b0 : decide (x3_1 < (a0.size : Int)) = false := decide_eq_false c3
     clear c3
     obtain rfl := Option.some.inj H
     go_wp2
     go_ret
     exact ⟨by first | rfl | (simp; done) | (simp [*]; done), by repeat (first | exact Drawn0.refl _ | apply Drawn0.step)⟩

/-! ### spec_IsTraffic: function 8 -/
def spec_IsTraffic.f (k : Nat) (a0 : ByteArray) : Option (Bool) := (spec_loTraffic.f k a0).bind fun t101 => (some t101)
theorem spec_IsTraffic.mono : ∀ a0 k, LeO (spec_IsTraffic.f k a0) (spec_IsTraffic.f (k + 1) a0) := by
 intro a0 k
 unfold spec_IsTraffic.f
 repeat' first
   | (with_reducible exact spec_loTraffic.mono _ _)
   | (with_reducible exact LeO.refl _)
   | (with_reducible exact LeO.none _)
   | (with_reducible refine LeO.ite ?_ ?_)
   | (with_reducible refine LeO.bind ?_ (fun _ => ?_))
   | exact spec_loTraffic.mono _ _
   | exact LeO.none _
   | refine LeO.ite ?_ ?_
   | refine LeO.bind ?_ (fun _ => ?_)
set_option maxHeartbeats 8000000 in
set_option maxRecDepth 100000 in
theorem spec_IsTraffic.calls (k : Nat) (a0 : ByteArray) (r : Bool) (w : World) (h : spec_IsTraffic.f k a0 = some r) :
  Calls Tryd.prog 8 #[.string a0] w fun e w' => e = .returned (.bool r) ∧ Drawn0 w w' := by
 have H : ((spec_loTraffic.f k a0).bind fun t101 => (some t101)) = some r := h
 clear h
 replace H := Option.bind_eq_some_iff.mp H
 obtain ⟨t101, A20, H⟩ := H
 replace H : (some t101) = some r := H
 have A2 := Aside0.mk A20
 clear A20
 obtain rfl := Option.some.inj H
 go_enter Tryd.func8, Tryd.ntmps8
 go_wp2_with (first | ((with_reducible refine gate_callee (f := 26) rfl ?_); refine goesL_ (some 4) rfl rfl Tryd.func26 (by kernel_rfl) rfl #[.string a0] rfl (by (try simp only [List.map_toArray, List.map_cons, List.map_nil]); first | done | rfl | (simp only [List.length_drop, List.length_take]; rfl)) ?_; (with_reducible refine (spec_loTraffic.calls k a0 t101 _ A2.out).mono ?_); rintro e w' ⟨rfl, ⟨nd, rfl⟩⟩; refine ⟨_, rfl, ?_⟩))
 go_ret
 exact ⟨by first | rfl | (simp; done) | (simp [*]; done), by repeat (first | exact Drawn0.refl _ | apply Drawn0.step)⟩

-- NOT PRINTED: function 27 (strings_Trim)

/-! ### impl_IsTraffic: function 9 -/
section
open Go.Shelf Go.Lib
def Tryd.lays160_ren : Go.Shelf.Ren := ⟨fun | 160 => 27 | 232 => 41 | 231 => 40 | 227 => 42 | 234 => 44 | 233 => 43 | 236 => 46 | 235 => 45 | 228 => 54 | 271 => 57 | 151 => 56 | 197 => 55 | 120 => 68 | 152 => 67 | 260 => 66 | 137 => 74 | 119 => 75 | 224 => 76 | 225 => 77 | 217 => 79 | 266 => 80 | n => n, fun | 9 => 9 | 4 => 4 | 3 => 3 | 5 => 5 | 117 => 61 | 116 => 60 | 0 => 0 | 124 => 64 | 21 => 21 | 105 => 70 | 46 => 81 | 119 => 80 | 139 => 84 | 138 => 83 | n => n, fun | 3 => 0 | 4 => 1 | n => n⟩
theorem Tryd.lays160 : Go.Proofs.Lays.n160 Tryd.prog Tryd.lays160_ren := {
 mixed := by kernel_rfl
 f119 := Tryd.func75.trans (congrArg some (by kernel_rfl))
 f120 := Tryd.func68.trans (congrArg some (by kernel_rfl))
 f137 := Tryd.func74.trans (congrArg some (by kernel_rfl))
 f151 := Tryd.func56.trans (congrArg some (by kernel_rfl))
 f152 := Tryd.func67.trans (congrArg some (by kernel_rfl))
 f160 := Tryd.func27.trans (congrArg some (by kernel_rfl))
 f197 := Tryd.func55.trans (congrArg some (by kernel_rfl))
 f217 := Tryd.func79.trans (congrArg some (by kernel_rfl))
 f224 := Tryd.func76.trans (congrArg some (by kernel_rfl))
 f225 := Tryd.func77.trans (congrArg some (by kernel_rfl))
 f227 := Tryd.func42.trans (congrArg some (by kernel_rfl))
 f228 := Tryd.func54.trans (congrArg some (by kernel_rfl))
 f231 := Tryd.func40.trans (congrArg some (by kernel_rfl))
 f232 := Tryd.func41.trans (congrArg some (by kernel_rfl))
 f233 := Tryd.func43.trans (congrArg some (by kernel_rfl))
 f234 := Tryd.func44.trans (congrArg some (by kernel_rfl))
 f235 := Tryd.func45.trans (congrArg some (by kernel_rfl))
 f236 := Tryd.func46.trans (congrArg some (by kernel_rfl))
 f260 := Tryd.func66.trans (congrArg some (by kernel_rfl))
 f266 := Tryd.func80.trans (congrArg some (by kernel_rfl))
 f271 := Tryd.func57.trans (congrArg some (by kernel_rfl))
 t0 := Tryd.underlying0
 a0 := Tryd.isAgg0
 z0 := Tryd.sizeOf0
 v0 := Tryd.zeroValue0
 t3 := Tryd.underlying3
 a3 := Tryd.isAgg3
 z3 := Tryd.sizeOf3
 v3 := Tryd.zeroValue3
 t4 := Tryd.underlying4
 a4 := Tryd.isAgg4
 z4 := Tryd.sizeOf4
 v4 := Tryd.zeroValue4
 t5 := Tryd.underlying5
 a5 := Tryd.isAgg5
 z5 := Tryd.sizeOf5
 v5 := Tryd.zeroValue5
 t9 := Tryd.underlying9
 a9 := Tryd.isAgg9
 z9 := Tryd.sizeOf9
 v9 := Tryd.zeroValue9
 t21 := Tryd.underlying21
 a21 := Tryd.isAgg21
 z21 := Tryd.sizeOf21
 v21 := Tryd.zeroValue21
 t46 := Tryd.underlying81
 a46 := Tryd.isAgg81
 z46 := Tryd.sizeOf81
 v46 := Tryd.zeroValue81
 t105 := Tryd.underlying70
 a105 := Tryd.isAgg70
 z105 := Tryd.sizeOf70
 v105 := Tryd.zeroValue70
 t116 := Tryd.underlying60
 a116 := Tryd.isAgg60
 z116 := Tryd.sizeOf60
 t117 := Tryd.underlying61
 a117 := Tryd.isAgg61
 z117 := Tryd.sizeOf61
 v117 := Tryd.zeroValue61
 t119 := Tryd.underlying80
 a119 := Tryd.isAgg80
 z119 := Tryd.sizeOf80
 t124 := Tryd.underlying64
 a124 := Tryd.isAgg64
 z124 := Tryd.sizeOf64
 v124 := Tryd.zeroValue64
 t138 := Tryd.underlying83
 a138 := Tryd.isAgg83
 z138 := Tryd.sizeOf83
 v138 := Tryd.zeroValue83
 t139 := Tryd.underlying84
 a139 := Tryd.isAgg84
 z139 := Tryd.sizeOf84
 v139 := Tryd.zeroValue84
 g3 := by kernel_rfl
 g4 := by kernel_rfl }
end
/-- traffic -/
def trafficB (s : ByteArray) : Bool := decide ((s.size : Int) ≤ 40) && (Lib.trimS s.data.toList [117, 100]).isEmpty
def impl_IsTraffic.f (a0 : ByteArray) : Option Bool := if a0.size ≤ 140737488351232 then some (trafficB a0) else none
theorem trim_calls (s : ByteArray) (hs : s.size ≤ 140737488351232) (W : World) : Calls Tryd.prog 27 #[.string s, .string ⟨#[117, 100]⟩] W fun e w' => e = .returned (.string ⟨(Lib.trimS s.data.toList [117, 100]).toArray⟩) ∧ Below W.heap.size W w' :=
 Any.strings_Trim_laid Tryd.lays160 (by kernel_rfl) s ⟨#[117, 100]⟩ W (by omega) (by decide) (ascii_of_all (by decide))
theorem empty_of (l : List UInt8) : (⟨l.toArray⟩ : ByteArray).toList.isEmpty = l.isEmpty := by rw [Lib.toList_data]
set_option maxHeartbeats 2000000 in
set_option maxRecDepth 100000 in
theorem impl_IsTraffic.calls (a0 : ByteArray) (r : Bool) (w : World) (h : impl_IsTraffic.f a0 = some r) : Calls Tryd.prog 9 #[.string a0] w fun e w' => e = .returned (.bool r) ∧ Below w.heap.size w w' := by
 unfold impl_IsTraffic.f at h
 by_cases hs : a0.size ≤ 140737488351232
 ·rw [if_pos hs] at h
  obtain rfl := Option.some.inj h
  clear h
  have hC := Aside0.mk (fun W => trim_calls a0 hs W)
  clear hs
  unfold trafficB
  by_cases c1 : (a0.size : Int) ≤ 40
  ·have c2 : decide ((a0.size : Int) ≤ 40) = true := decide_eq_true c1
   have c3 : decide (a0.size ≤ 40) = true := decide_eq_true (by omega)
   rw [c2]
   clear c1
   have HE := Aside0.mk (empty_of (Lib.trimS a0.data.toList [117, 100]))
   generalize Lib.trimS a0.data.toList [117, 100] = l at hC HE ⊢
   generalize (⟨l.toArray⟩ : ByteArray) = str at hC HE
   cases hl : l.isEmpty with
   | true =>
    have h1 : str.toList.isEmpty = true := by rw [HE.out, hl]
    have h2 : str.toList = [] := List.isEmpty_iff.mp h1
    clear hl
    go_enter Tryd.func9, Tryd.ntmps9
    go_wp2_with (go_at_call 27; refine (hC.out _).mono ?_; rintro e w1 ⟨rfl, hb⟩; have HB := Aside0.mk hb; clear hb)
    go_ret
    exact ⟨by first | rfl | simp, HB.out⟩
   | false =>
    have h1 : str.toList.isEmpty = false := by rw [HE.out, hl]
    have h2 : (!str.toList.isEmpty) = true := by rw [h1]; rfl
    have h3 : (str.toList = []) = False := eq_false (fun e => by rw [e] at h1; cases h1)
    clear hl
    go_enter Tryd.func9, Tryd.ntmps9
    go_wp2_with (go_at_call 27; refine (hC.out _).mono ?_; rintro e w1 ⟨rfl, hb⟩; have HB := Aside0.mk hb; clear hb)
    go_ret
    exact ⟨by first | rfl | simp, HB.out⟩
  ·have c2 : decide ((a0.size : Int) ≤ 40) = false := decide_eq_false c1
   have c3 : decide (a0.size ≤ 40) = false := decide_eq_false (by omega)
   rw [c2]
   clear c1
   go_enter Tryd.func9, Tryd.ntmps9
   go_wp2
   go_ret
   exact ⟨by first | rfl | simp, Below.refl _ _⟩
 ·rw [if_neg hs] at h
  exact absurd h (by simp)

/-! ### laws_FnExactIsTraffic: function 3 -/
def laws_FnExactIsTraffic.f (k : Nat) (a0 : ByteArray) : Option (Bool) := if (a0.size : Int) > 1048576 then (some true) else ((spec_IsTraffic.f k a0).bind fun t102 => ((impl_IsTraffic.f a0).bind fun t103 => (if (t103 != t102) = true then (some false) else (some true))))
theorem laws_FnExactIsTraffic.mono : ∀ a0 k, LeO (laws_FnExactIsTraffic.f k a0) (laws_FnExactIsTraffic.f (k + 1) a0) := by
 intro a0 k
 unfold laws_FnExactIsTraffic.f
 repeat' first
   | (with_reducible exact spec_IsTraffic.mono _ _)
   | (with_reducible exact LeO.refl _)
   | (with_reducible exact LeO.none _)
   | (with_reducible refine LeO.ite ?_ ?_)
   | (with_reducible refine LeO.bind ?_ (fun _ => ?_))
   | exact spec_IsTraffic.mono _ _
   | exact LeO.none _
   | refine LeO.ite ?_ ?_
   | refine LeO.bind ?_ (fun _ => ?_)
set_option maxHeartbeats 8000000 in
set_option maxRecDepth 100000 in
theorem laws_FnExactIsTraffic.calls (k : Nat) (a0 : ByteArray) (w : World) (h : laws_FnExactIsTraffic.f k a0 = some true) :
  Calls Tryd.prog 3 #[.string a0] w fun e w' => e = .returned (.bool true) ∧ Below w.heap.size w w' := by
 have HB := Aside0.mk (Below.refl w.heap.size w)
 have H : (if (a0.size : Int) > 1048576 then (some true) else ((spec_IsTraffic.f k a0).bind fun t102 => ((impl_IsTraffic.f a0).bind fun t103 => (if (t103 != t102) = true then (some false) else (some true))))) = some true := h
 clear h
 by_cases c2 : (a0.size : Int) > 1048576
 ·rw [if_pos c2] at H
  have c2b0 : decide (1048576 < (a0.size : Int)) = true := decide_eq_true c2
  have c2b1 : decide (1048576 < a0.size) = true := decide_eq_true (by omega)
  clear c2
  clear H
  go_enter Tryd.func3, Tryd.ntmps3
  go_wp2
  go_ret
  exact ⟨by first | rfl | (simp [errW_none, errW_some] <;> rfl) | (simp [*, errW_none, errW_some] <;> rfl), by repeat (first | (with_reducible first | exact HB.out | apply below_alloc | apply pw_below_drewN | apply below_drew1) | exact HB.out)⟩
 ·rw [if_neg c2] at H
  have c2b0 : decide (1048576 < (a0.size : Int)) = false := decide_eq_false c2
  have c2b1 : decide (1048576 < a0.size) = false := decide_eq_false (by omega)
  clear c2
  replace H := Option.bind_eq_some_iff.mp H
  obtain ⟨t102, A30, H⟩ := H
  replace H : ((impl_IsTraffic.f a0).bind fun t103 => (if (t103 != t102) = true then (some false) else (some true))) = some true := H
  have A3 := Aside0.mk A30
  clear A30
  replace H := Option.bind_eq_some_iff.mp H
  obtain ⟨t103, A40, H⟩ := H
  replace H : (if (t103 != t102) = true then (some false) else (some true)) = some true := H
  have A4 := Aside0.mk A40
  clear A40
  by_cases c5 : (t103 != t102) = true
  ·rw [if_pos c5] at H
   have c5b0 : (t103 != t102) = true := c5
   (try (have c5b1 : decide (t103 = t102) = false := by simpa using c5))
   (try (have c5b2 : (t103 == t102) = false := by simpa using c5))
   (try (have c5b3 : ¬ (t103 = t102) := by simpa using c5))
   clear c5
   exact absurd H (by simp)
  ·rw [if_neg c5] at H
   have c5b0 : (t103 != t102) = false := by simpa using c5
   (try (have c5b1 : decide (t103 = t102) = true := by simpa using c5))
   (try (have c5b2 : (t103 == t102) = true := by simpa using c5))
   clear c5
   clear H
   go_enter Tryd.func3, Tryd.ntmps3
   go_wp2_with (first | ((with_reducible refine gate_callee (f := 8) rfl ?_); refine goesL_ (some 9) rfl rfl Tryd.func8 (by kernel_rfl) rfl #[.string a0] rfl (by (try simp only [List.map_toArray, List.map_cons, List.map_nil]); first | done | rfl | (simp only [List.length_drop, List.length_take]; rfl)) ?_; (with_reducible refine (spec_IsTraffic.calls k a0 t102 _ A3.out).mono ?_); rintro e w' ⟨rfl, ⟨nd, rfl⟩⟩; refine ⟨_, rfl, ?_⟩) | ((with_reducible refine gate_callee (f := 9) rfl ?_); refine goesL_ (some 11) rfl rfl Tryd.func9 (by kernel_rfl) rfl #[.string a0] rfl (by (try simp only [List.map_toArray, List.map_cons, List.map_nil]); first | done | rfl | (simp only [List.length_drop, List.length_take]; rfl)) ?_; (with_reducible refine (impl_IsTraffic.calls a0 t103 _ A4.out).mono ?_); rintro e w6 ⟨rfl, hb⟩; refine ⟨_, rfl, ?_⟩; replace HB := xp HB hb; (try clear hb); (try clear hb2); (try clear hk); (try clear hi)))
   go_ret
   exact ⟨by first | rfl | (simp [errW_none, errW_some] <;> rfl) | (simp [*, errW_none, errW_some] <;> rfl), by repeat (first | (with_reducible first | exact HB.out | apply below_alloc | apply pw_below_drewN | apply below_drew1) | exact HB.out)⟩

/-- THE ONE PURE STATEMENT of laws_FnExactIsTraffic: yours. -/
def laws_FnExactIsTraffic.Pure : Prop := ∀ (a0 : ByteArray), a0.size ≤ 140737488351232 → ∃ k, laws_FnExactIsTraffic.f k a0 = some true
theorem laws_FnExactIsTraffic.walk (P : laws_FnExactIsTraffic.Pure) (a0 : ByteArray) (w : World) (w0 : a0.size ≤ 140737488351232) :
  Calls Tryd.prog 3 #[.string a0] w fun e w' => e = .returned (.bool true) ∧ Below w.heap.size w w' := by
 obtain ⟨k, h⟩ := P a0 w0
 refine (laws_FnExactIsTraffic.calls k a0 w h).mono ?_
 rintro e w' ⟨rfl, hd⟩
 exact ⟨rfl, hd⟩

end Go.Proofs.YtmedapafllmhjaaDoor.PFnExactIsTraffic

/- Lean functions of the Go functions that the law FnExactChainOuts reaches, and the proofs that the calls come to what they say (made by program). -/
import Derived.Test.YtminippcikenfaaAb
import Derived.Test.YtminippcikenfaaPFnExactChainOutsx0
import Derived.Test.YtminippcikenfaaPFnExactChainOutsx2
namespace Go.Proofs.Ytminippcikenfaa.PFnExactChainOuts
open Go.RowKit Go.Proofs.YtminippcikenfaaW.PrintWords Go.Proofs.YtminippcikenfaaW.PrintLast Go.Proofs.YtminippcikenfaaW.PrintMore Go.Proofs.Ytminippcikenfaa.Ab
attribute [local go_sem] max2_int min2_int max_two min_two max_three min_three max_four min_four   -- for this text's walks alone
set_option linter.unusedVariables false
set_option linter.unusedSimpArgs false

/-- slices.IndexFunc over whole numbers, whatever the function value: where it first holds, or -1. -/
theorem indexInts.calls (p : Int → Bool) (g : Nat) (lb : Array Value) (eg : ∀ args w, (callFunc g args).run Try.prog w = .ok (.enter g args) w) (A0 : Option Addr) (c0 : Nat) (l0 : List Int) (w : World)
  (hp : ∀ (W : World) (x : Int), Below w.heap.size w W → Calls Try.prog g (#[.int .i64 x] ++ lb) W fun e w' => e = .returned (.bool (p x)) ∧ Below w.heap.size w w')
  (hr0 : Kd.C (Kd.int .i64) w A0 l0.length l0) :
  Calls Try.prog 119 #[.slice A0 l0.length c0, .func (.func g) #[] lb] w fun e w' => ∃ r : Int, e = .returned (.int .i64 r) ∧ decide (r ≥ 0) = l0.any p ∧ Below w.heap.size w w' := by
 have HR0 := Aside0.mk hr0
 clear hr0
 have HN := Aside0.mk (HR0.out.2.1)
 go_enter Try.func119, Try.ntmps119
 go_wp2
 go_loopg [5, 8] l0.length (fun gg _ s8 wr => ∃ x8 : Int, s8 = .int .i64 x8 ∧ Aside0 (0 ≤ x8 ∧ x8 ≤ l0.length) ∧ Aside0 (l0.length - x8.toNat ≤ gg) ∧ Aside0 (Below w.heap.size w wr) ∧ Aside0 (∀ j : Nat, j < x8.toNat → p (rd l0 j) = false))
 case atStart => exact ⟨0, rfl, ⟨by omega⟩, ⟨by simp⟩, ⟨Below.refl _ w⟩, ⟨fun j hj => absurd hj (by simp)⟩⟩
 case round =>
  obtain ⟨x8, rfl, HX, HG, HB, HA⟩ := hrel
  by_cases hlt : x8 < (l0.length : Int)
  ·have c1 : decide (x8 < (l0.length : Int)) = true := decide_eq_true hlt
   have c2 : decide (0 ≤ x8) = true := decide_eq_true HX.out.1
   obtain ⟨ad, e1, hx⟩ := Kd.at_int (Kd.C_below HR0.out HB.out) x8 HX.out.1 hlt
   cases e1
   have q1 := eq_true HX.out.1
   have q2 := eq_true hlt
   have HL := Aside0.mk hlt
   clear hlt
   have hcall := Aside0.mk (hp wr (rd l0 x8) HB.out)
   have HP := Aside0.mk hp
   clear hp
   cases hq : p (rd l0 x8) with
   | true =>
    have HQ := Aside0.mk hq
    clear hq
    go_wp2_with (go_at_fn g; refine hcall.out.mono ?_; rintro e w' ⟨rfl, hb'⟩; have HB' := Aside0.mk hb'; clear hb'; simp only [HQ.out])
    go_ret
    refine ⟨x8, rfl, ?_, HB'.out⟩
    rw [decide_eq_true HX.out.1]
    refine (List.any_eq_true.mpr ⟨rd l0 x8, ?_, HQ.out⟩).symm
    have hn : x8.toNat < l0.length := by have := HX.out.1; have := HL.out; omega
    unfold rd
    rw [List.getD_eq_getElem?_getD, List.getElem?_eq_getElem hn]
    exact List.getElem_mem hn
   | false =>
    have HQ := Aside0.mk hq
    clear hq
    go_wp2_with (go_at_fn g; refine hcall.out.mono ?_; rintro e w' ⟨rfl, hb'⟩; have HB' := Aside0.mk hb'; clear hb'; simp only [HQ.out])
    go_roundg (l0.length - (x8.toNat + 1))
    case measure => have := HG.out; have := HX.out.1; have := HL.out; omega
    case rel =>
     have hw : wrap64 (x8 + 1) = x8 + 1 := by have := HX.out.1; have := HL.out; have := HN.out; unfold wrap64; omega
     refine ⟨x8 + 1, by rw [hw], ⟨by have := HX.out.1; have := HL.out; omega⟩, ⟨by have := HX.out.1; omega⟩, ⟨HB'.out⟩, ⟨fun j hj => ?_⟩⟩
     by_cases e : j < x8.toNat
     ·exact HA.out j e
     ·have : (j : Int) = x8 := by have := HX.out.1; omega
      rw [this]
      exact HQ.out
  ·have c1 : decide (x8 < (l0.length : Int)) = false := decide_eq_false hlt
   have HL := Aside0.mk hlt
   clear hlt
   go_wp2
   go_ret
   refine ⟨-1, rfl, ?_, HB.out⟩
   rw [decide_eq_false (by decide)]
   refine (List.any_eq_false.mpr fun x hx => ?_).symm
   obtain ⟨j, hj, rfl⟩ := List.mem_iff_getElem.1 hx
   have := HA.out j (by have := HX.out; have := HL.out; omega)
   unfold rd at this
   rw [List.getD_eq_getElem?_getD, Int.toNat_natCast, List.getElem?_eq_getElem hj] at this
   simpa using this

theorem containsInts.calls (p : Int → Bool) (g : Nat) (lb : Array Value) (eg : ∀ args w, (callFunc g args).run Try.prog w = .ok (.enter g args) w) (A0 : Option Addr) (c0 : Nat) (l0 : List Int) (w : World)
  (hp : ∀ (W : World) (x : Int), Below w.heap.size w W → Calls Try.prog g (#[.int .i64 x] ++ lb) W fun e w' => e = .returned (.bool (p x)) ∧ Below w.heap.size w w')
  (hr0 : Kd.C (Kd.int .i64) w A0 l0.length l0) :
  Calls Try.prog 112 #[.slice A0 l0.length c0, .func (.func g) #[] lb] w fun e w' => e = .returned (.bool (l0.any p)) ∧ Below w.heap.size w w' := by
 have hc := Aside0.mk (indexInts.calls p g lb eg A0 c0 l0 w hp hr0)
 clear hp hr0
 go_enter Try.func112, Try.ntmps112
 go_wp2_with (go_at_call 119; refine hc.out.mono ?_; rintro e w' ⟨r, rfl, hr, hb⟩; have HB := Aside0.mk hb; have HR := Aside0.mk hr; clear hb hr)
 go_ret
 refine ⟨?_, HB.out⟩
 rw [← HR.out]
 first | rfl | simp

/-! ### impl_areWithin: function 90 -/
def impl_areWithin.f (l0 : List Int) (a1 : Int) (a2 : Int) : Option (Bool) := some (!(l0.any fun x => !(decide (a1 ≤ x) && decide (x ≤ a2))))
theorem impl_areWithin.closure (a1 a2 : Int) (B : Nat) (w : World) (hB : B + 1 < w.heap.size) (h1 : w.cell? ⟨B, 0, none⟩ = some (.int .i64 a1)) (h2 : w.cell? ⟨B + 1, 0, none⟩ = some (.int .i64 a2)) (W : World) (x : Int) (hb : Below w.heap.size w W) :
  Calls Try.prog 113 (#[.int .i64 x] ++ #[.pointer (some ⟨B, 0, none⟩), .pointer (some ⟨B + 1, 0, none⟩)]) W fun e w' => e = .returned (.bool (!(decide (a1 ≤ x) && decide (x ≤ a2)))) ∧ Below w.heap.size w w' := by
 have g1 := (hb.cell (p := ⟨B, 0, none⟩) (show B < w.heap.size by omega)).trans h1
 have g2 := (hb.cell (p := ⟨B + 1, 0, none⟩) hB).trans h2
 have HB := Aside0.mk hb
 clear hb h1 h2
 show Calls Try.prog 113 #[.int .i64 x, .pointer (some ⟨B, 0, none⟩), .pointer (some ⟨B + 1, 0, none⟩)] W _
 by_cases c : a1 ≤ x
 ·have hw := Aside0.mk (fun W' => impl_within.calls x a1 a2 (decide (x ≤ a2)) W' (by unfold impl_within.f; rw [if_pos c]))
  rw [decide_eq_true c]
  clear c
  go_enter Try.func113, Try.ntmps113
  go_wp2_with (go_at_call 94; refine (hw.out _).mono ?_; rintro e w' ⟨rfl, hd⟩; obtain ⟨q, rfl⟩ := hd.out)
  go_ret
  exact ⟨by first | rfl | simp, by first | exact HB.out | exact pw_below_drewN HB.out _⟩
 ·have hw := Aside0.mk (fun W' => impl_within.calls x a1 a2 false W' (by unfold impl_within.f; rw [if_neg c]))
  rw [decide_eq_false c]
  clear c
  go_enter Try.func113, Try.ntmps113
  go_wp2_with (go_at_call 94; refine (hw.out _).mono ?_; rintro e w' ⟨rfl, hd⟩; obtain ⟨q, rfl⟩ := hd.out)
  go_ret
  exact ⟨by first | rfl | simp, by first | exact HB.out | exact pw_below_drewN HB.out _⟩
set_option maxHeartbeats 2000000 in
theorem impl_areWithin.calls (A0 : Option Addr) (c0 : Nat) (l0 : List Int) (a1 : Int) (a2 : Int) (r : Bool) (w : World) (hr0 : Kd.C (Kd.int .i64) w A0 l0.length l0) (hc0 : l0.length ≤ c0) (h : impl_areWithin.f l0 a1 a2 = some r) :
  Calls Try.prog 90 #[.slice A0 l0.length c0, .int .i64 a1, .int .i64 a2] w fun e w' => e = .returned (.bool r) ∧ Below w.heap.size w w' := by
 obtain rfl := Option.some.inj h
 clear h
 have HR0 := Aside0.mk hr0
 clear hr0
 have hC := Aside0.mk (fun (W : World) (hb : Below w.heap.size w W) (hB : w.heap.size + 1 < W.heap.size) (h1 : W.cell? ⟨w.heap.size, 0, none⟩ = some (.int .i64 a1)) (h2 : W.cell? ⟨w.heap.size + 1, 0, none⟩ = some (.int .i64 a2)) =>
  containsInts.calls (fun x => !(decide (a1 ≤ x) && decide (x ≤ a2))) 113 #[.pointer (some ⟨w.heap.size, 0, none⟩), .pointer (some ⟨w.heap.size + 1, 0, none⟩)] (enters_of Try.func113 (by kernel_rfl) rfl) A0 c0 l0 W
   (fun W' x hb' => impl_areWithin.closure a1 a2 w.heap.size W hB h1 h2 W' x hb') (Kd.C_below HR0.out hb))
 have HW := Aside0.mk (Below.refl w.heap.size w)
 go_enter Try.func90, Try.ntmps90
 go_wp2_with (go_at_call 112; refine (hC.out _ (by first | exact below_alloc (below_alloc HW.out _) _) (by simp) (by simp) (by simp)).mono ?_; rintro e w' ⟨rfl, hb⟩; have HB := Aside0.mk hb; clear hb)
 go_ret
 refine ⟨by first | rfl | simp, ?_⟩
 have h0 := below_alloc (below_alloc HW.out (.cells #[.int .i64 a1] 3)) (.cells #[.int .i64 a2] 3)
 exact below_then h0 h0.size HB.out

/-! ### impl_areInflows: function 53 -/
def impl_areInflows.f (l0 : List Int) : Option (Bool) := if (l0.length : Int) ≤ 100 then ((impl_areWithin.f l0 0 60).bind fun t154 => (some t154)) else (some false)
set_option maxHeartbeats 8000000 in
set_option maxRecDepth 100000 in
theorem impl_areInflows.calls (A0 : Option Addr) (c0 : Nat) (l0 : List Int) (r : Bool) (w : World) (hr0 : Kd.C (Kd.int .i64) w A0 l0.length l0) (hc0 : l0.length ≤ c0) (h : impl_areInflows.f l0 = some r) :
  Calls Try.prog 53 #[.slice A0 l0.length c0] w fun e w' => e = .returned (.bool r) ∧ Below w.heap.size w w' := by
 have HR0 := Aside0.mk hr0
 have HC0 := Aside0.mk hc0
 clear hr0 hc0
 have HB := Aside0.mk (Below.refl w.heap.size w)
 have H : (if (l0.length : Int) ≤ 100 then ((impl_areWithin.f l0 0 60).bind fun t154 => (some t154)) else (some false)) = some r := h
 clear h
 by_cases c2 : (l0.length : Int) ≤ 100
 ·rw [if_pos c2] at H
  have c2b0 : decide ((l0.length : Int) ≤ 100) = true := decide_eq_true c2
  have c2b1 : decide (l0.length ≤ 100) = true := decide_eq_true (by omega)
  clear c2
  replace H := Option.bind_eq_some_iff.mp H
  obtain ⟨t154, A30, H⟩ := H
  replace H : (some t154) = some r := H
  have A3 := Aside0.mk A30
  clear A30
  obtain rfl := Option.some.inj H
  go_enter Try.func53, Try.ntmps53
  go_wp2_with (first | (go_at_call 90; (with_reducible refine (impl_areWithin.calls _ _ l0 0 60 t154 _ ?side1 ?side2 A3.out).mono ?_); (case side1 => exact xd (HR0.out)); (case side2 => exact HC0.out); rintro e w4 ⟨rfl, hb⟩; replace HB := xp HB hb; (try clear hb); (try clear hb2); (try clear hk); (try clear hi)))
  go_ret
  exact ⟨by first | rfl | (simp [errW_none, errW_some] <;> rfl) | (simp [*, errW_none, errW_some] <;> rfl), by repeat (first | (with_reducible first | exact HB.out | apply below_alloc | apply pw_below_drewN | apply below_drew1) | exact HB.out)⟩
 ·rw [if_neg c2] at H
  have c2b0 : decide ((l0.length : Int) ≤ 100) = false := decide_eq_false c2
  have c2b1 : decide (l0.length ≤ 100) = false := decide_eq_false (by omega)
  clear c2
  obtain rfl := Option.some.inj H
  go_enter Try.func53, Try.ntmps53
  go_wp2
  go_ret
  exact ⟨by first | rfl | (simp [errW_none, errW_some] <;> rfl) | (simp [*, errW_none, errW_some] <;> rfl), by repeat (first | (with_reducible first | exact HB.out | apply below_alloc | apply pw_below_drewN | apply below_drew1) | exact HB.out)⟩

/-! ### impl_Siphon_tick: function 91 -/
def impl_Siphon_tick.f (a0_0 : Int) (a0_1 : Int) (a0_2 : Int) (a0_3 : Int) (a1_0 : Int) (a1_1 : Bool) (a2 : Int) : Option (Int × Bool × Int × Int) := if a1_1 = true then (some (wrap64 ((wrap64 ((wrap64 (a1_0 + a2)) - (mx 0 (wrap64 ((wrap64 (a1_0 + a2)) - a0_0))))) - (mn a0_3 (mx 0 (wrap64 ((wrap64 ((wrap64 (a1_0 + a2)) - (mx 0 (wrap64 ((wrap64 (a1_0 + a2)) - a0_0))))) - a0_1))))), decide ((wrap64 ((wrap64 ((wrap64 (a1_0 + a2)) - (mx 0 (wrap64 ((wrap64 (a1_0 + a2)) - a0_0))))) - (mn a0_3 (mx 0 (wrap64 ((wrap64 ((wrap64 (a1_0 + a2)) - (mx 0 (wrap64 ((wrap64 (a1_0 + a2)) - a0_0))))) - a0_1)))))) > a0_1), mn a0_3 (mx 0 (wrap64 ((wrap64 ((wrap64 (a1_0 + a2)) - (mx 0 (wrap64 ((wrap64 (a1_0 + a2)) - a0_0))))) - a0_1))), mx 0 (wrap64 ((wrap64 (a1_0 + a2)) - a0_0)))) else (if (wrap64 ((wrap64 (a1_0 + a2)) - (mx 0 (wrap64 ((wrap64 (a1_0 + a2)) - a0_0))))) ≥ a0_2 then (some (wrap64 ((wrap64 ((wrap64 (a1_0 + a2)) - (mx 0 (wrap64 ((wrap64 (a1_0 + a2)) - a0_0))))) - (mn a0_3 (mx 0 (wrap64 ((wrap64 ((wrap64 (a1_0 + a2)) - (mx 0 (wrap64 ((wrap64 (a1_0 + a2)) - a0_0))))) - a0_1))))), decide ((wrap64 ((wrap64 ((wrap64 (a1_0 + a2)) - (mx 0 (wrap64 ((wrap64 (a1_0 + a2)) - a0_0))))) - (mn a0_3 (mx 0 (wrap64 ((wrap64 ((wrap64 (a1_0 + a2)) - (mx 0 (wrap64 ((wrap64 (a1_0 + a2)) - a0_0))))) - a0_1)))))) > a0_1), mn a0_3 (mx 0 (wrap64 ((wrap64 ((wrap64 (a1_0 + a2)) - (mx 0 (wrap64 ((wrap64 (a1_0 + a2)) - a0_0))))) - a0_1))), mx 0 (wrap64 ((wrap64 (a1_0 + a2)) - a0_0)))) else (some (wrap64 ((wrap64 (a1_0 + a2)) - (mx 0 (wrap64 ((wrap64 (a1_0 + a2)) - a0_0)))), decide ((wrap64 ((wrap64 (a1_0 + a2)) - (mx 0 (wrap64 ((wrap64 (a1_0 + a2)) - a0_0))))) ≥ a0_2), 0, mx 0 (wrap64 ((wrap64 (a1_0 + a2)) - a0_0)))))
set_option maxHeartbeats 8000000 in
set_option maxRecDepth 100000 in
theorem impl_Siphon_tick.calls (a0_0 : Int) (a0_1 : Int) (a0_2 : Int) (a0_3 : Int) (a1_0 : Int) (a1_1 : Bool) (a2 : Int) (r1 : Int) (r2 : Bool) (r3 : Int) (r4 : Int) (w : World) (h : impl_Siphon_tick.f a0_0 a0_1 a0_2 a0_3 a1_0 a1_1 a2 = some (r1, r2, r3, r4)) :
  Calls Try.prog 91 #[.agg #[.int .i64 a0_0, .int .i64 a0_1, .int .i64 a0_2, .int .i64 a0_3], .agg #[.int .i64 a1_0, .bool a1_1], .int .i64 a2] w fun e w' => e = .returned (.tuple #[.agg #[.int .i64 r1, .bool r2], .int .i64 r3, .int .i64 r4]) ∧ Below w.heap.size w w' := by
 have hu29 := Try.underlying29
 have hu31 := Try.underlying31
 have HB := Aside0.mk (Below.refl w.heap.size w)
 have H : (if a1_1 = true then (some (wrap64 ((wrap64 ((wrap64 (a1_0 + a2)) - (mx 0 (wrap64 ((wrap64 (a1_0 + a2)) - a0_0))))) - (mn a0_3 (mx 0 (wrap64 ((wrap64 ((wrap64 (a1_0 + a2)) - (mx 0 (wrap64 ((wrap64 (a1_0 + a2)) - a0_0))))) - a0_1))))), decide ((wrap64 ((wrap64 ((wrap64 (a1_0 + a2)) - (mx 0 (wrap64 ((wrap64 (a1_0 + a2)) - a0_0))))) - (mn a0_3 (mx 0 (wrap64 ((wrap64 ((wrap64 (a1_0 + a2)) - (mx 0 (wrap64 ((wrap64 (a1_0 + a2)) - a0_0))))) - a0_1)))))) > a0_1), mn a0_3 (mx 0 (wrap64 ((wrap64 ((wrap64 (a1_0 + a2)) - (mx 0 (wrap64 ((wrap64 (a1_0 + a2)) - a0_0))))) - a0_1))), mx 0 (wrap64 ((wrap64 (a1_0 + a2)) - a0_0)))) else (if (wrap64 ((wrap64 (a1_0 + a2)) - (mx 0 (wrap64 ((wrap64 (a1_0 + a2)) - a0_0))))) ≥ a0_2 then (some (wrap64 ((wrap64 ((wrap64 (a1_0 + a2)) - (mx 0 (wrap64 ((wrap64 (a1_0 + a2)) - a0_0))))) - (mn a0_3 (mx 0 (wrap64 ((wrap64 ((wrap64 (a1_0 + a2)) - (mx 0 (wrap64 ((wrap64 (a1_0 + a2)) - a0_0))))) - a0_1))))), decide ((wrap64 ((wrap64 ((wrap64 (a1_0 + a2)) - (mx 0 (wrap64 ((wrap64 (a1_0 + a2)) - a0_0))))) - (mn a0_3 (mx 0 (wrap64 ((wrap64 ((wrap64 (a1_0 + a2)) - (mx 0 (wrap64 ((wrap64 (a1_0 + a2)) - a0_0))))) - a0_1)))))) > a0_1), mn a0_3 (mx 0 (wrap64 ((wrap64 ((wrap64 (a1_0 + a2)) - (mx 0 (wrap64 ((wrap64 (a1_0 + a2)) - a0_0))))) - a0_1))), mx 0 (wrap64 ((wrap64 (a1_0 + a2)) - a0_0)))) else (some (wrap64 ((wrap64 (a1_0 + a2)) - (mx 0 (wrap64 ((wrap64 (a1_0 + a2)) - a0_0)))), decide ((wrap64 ((wrap64 (a1_0 + a2)) - (mx 0 (wrap64 ((wrap64 (a1_0 + a2)) - a0_0))))) ≥ a0_2), 0, mx 0 (wrap64 ((wrap64 (a1_0 + a2)) - a0_0)))))) = some (r1, r2, r3, r4) := h
 clear h
 obtain ⟨ji4, hji4⟩ : ∃ j_ : Int, (mx 0 (wrap64 ((wrap64 (a1_0 + a2)) - a0_0))) = j_ := ⟨_, rfl⟩
 replace H : (if a1_1 = true then (some (wrap64 ((wrap64 ((wrap64 (a1_0 + a2)) - (ji4))) - (mn a0_3 (mx 0 (wrap64 ((wrap64 ((wrap64 (a1_0 + a2)) - (ji4))) - a0_1))))), decide ((wrap64 ((wrap64 ((wrap64 (a1_0 + a2)) - (ji4))) - (mn a0_3 (mx 0 (wrap64 ((wrap64 ((wrap64 (a1_0 + a2)) - (ji4))) - a0_1)))))) > a0_1), mn a0_3 (mx 0 (wrap64 ((wrap64 ((wrap64 (a1_0 + a2)) - (ji4))) - a0_1))), ji4)) else (if (wrap64 ((wrap64 (a1_0 + a2)) - (ji4))) ≥ a0_2 then (some (wrap64 ((wrap64 ((wrap64 (a1_0 + a2)) - (ji4))) - (mn a0_3 (mx 0 (wrap64 ((wrap64 ((wrap64 (a1_0 + a2)) - (ji4))) - a0_1))))), decide ((wrap64 ((wrap64 ((wrap64 (a1_0 + a2)) - (ji4))) - (mn a0_3 (mx 0 (wrap64 ((wrap64 ((wrap64 (a1_0 + a2)) - (ji4))) - a0_1)))))) > a0_1), mn a0_3 (mx 0 (wrap64 ((wrap64 ((wrap64 (a1_0 + a2)) - (ji4))) - a0_1))), ji4)) else (some (wrap64 ((wrap64 (a1_0 + a2)) - (ji4)), decide ((wrap64 ((wrap64 (a1_0 + a2)) - (ji4))) ≥ a0_2), 0, ji4)))) = some (r1, r2, r3, r4) := by first | (rw [hji4] at H; exact H) | (simp only [hji4] at H ⊢; exact H)
 (try (have hji4l : 0 ≤ ji4 := by (rw [← hji4]; unfold mx; (repeat' split) <;> omega)))
 (try (have hji4m : 0 ≤ ji4 := by omega))
 have hji4_ : (if 0 < (wrap64 ((wrap64 (a1_0 + a2)) - a0_0)) then (wrap64 ((wrap64 (a1_0 + a2)) - a0_0)) else 0) = ji4 := hji4
 by_cases c5 : a1_1 = true
 ·subst c5
  have H1 : (some (wrap64 ((wrap64 ((wrap64 (a1_0 + a2)) - (ji4))) - (mn a0_3 (mx 0 (wrap64 ((wrap64 ((wrap64 (a1_0 + a2)) - (ji4))) - a0_1))))), decide ((wrap64 ((wrap64 ((wrap64 (a1_0 + a2)) - (ji4))) - (mn a0_3 (mx 0 (wrap64 ((wrap64 ((wrap64 (a1_0 + a2)) - (ji4))) - a0_1)))))) > a0_1), mn a0_3 (mx 0 (wrap64 ((wrap64 ((wrap64 (a1_0 + a2)) - (ji4))) - a0_1))), ji4)) = some (r1, r2, r3, r4) := by rw [if_pos rfl] at H; exact H
  clear H
  have H := H1
  clear H1
  obtain ⟨ji6, hji6⟩ : ∃ j_ : Int, (mx 0 (wrap64 ((wrap64 ((wrap64 (a1_0 + a2)) - (ji4))) - a0_1))) = j_ := ⟨_, rfl⟩
  replace H : (some (wrap64 ((wrap64 ((wrap64 (a1_0 + a2)) - (ji4))) - (mn a0_3 (ji6))), decide ((wrap64 ((wrap64 ((wrap64 (a1_0 + a2)) - (ji4))) - (mn a0_3 (ji6)))) > a0_1), mn a0_3 (ji6), ji4)) = some (r1, r2, r3, r4) := by first | (rw [hji6] at H; exact H) | (simp only [hji6] at H ⊢; exact H)
  have hji6_ : (if 0 < (wrap64 ((wrap64 ((wrap64 (a1_0 + a2)) - (ji4))) - a0_1)) then (wrap64 ((wrap64 ((wrap64 (a1_0 + a2)) - (ji4))) - a0_1)) else 0) = ji6 := hji6
  obtain ⟨ji7, hji7⟩ : ∃ j_ : Int, (mn a0_3 (ji6)) = j_ := ⟨_, rfl⟩
  replace H : (some (wrap64 ((wrap64 ((wrap64 (a1_0 + a2)) - (ji4))) - (ji7)), decide ((wrap64 ((wrap64 ((wrap64 (a1_0 + a2)) - (ji4))) - (ji7))) > a0_1), ji7, ji4)) = some (r1, r2, r3, r4) := by first | (rw [hji7] at H; exact H) | (simp only [hji7] at H ⊢; exact H)
  have hji7_ : (if (ji6) < a0_3 then (ji6) else a0_3) = ji7 := hji7
  simp only [Option.some.injEq, Prod.mk.injEq] at H
  obtain ⟨rfl, rfl, rfl, rfl⟩ := H
  go_enter Try.func91, Try.ntmps91
  go_wp2_with (first | ((with_reducible refine gate_dst (N := 3) rfl ?_); refine box_event ?hg (N := 3) ?hd (cs := #[.int .i64 a0_0, .int .i64 a0_1, .int .i64 a0_2, .int .i64 a0_3]) (t := 29) ?hr ?_; (case hd => rfl); (case hg => rfl); (case hr => first | (go_simp; done) | (go_simp; rfl)); intro gb155 hg w8 hbox hb; have BK155 := Aside0.mk (hbox); have GW155 := xg HB hg; have GE155 := xg HB hg; replace HB := xp HB hb; clear hb hbox hg) | ((with_reducible refine gate_dst (N := 4) rfl ?_); refine box_event ?hg (N := 4) ?hd (cs := #[.int .i64 a1_0, .bool true]) (t := 31) ?hr ?_; (case hd => rfl); (case hg => rfl); (case hr => first | (go_simp; done) | (go_simp; rfl)); intro gb156 hg w9 hbox hb; have BK156 := Aside0.mk (hbox); have GW156 := xg HB hg; have GE156 := xg HB hg; replace HB := xp HB hb; have NB155_156 := xl BK155 hg; have NB156_155 := xh BK155 hg; replace BK155 := xk BK155 hb; clear hb hbox hg) | ((with_reducible refine gate_dst (N := 6) rfl ?_); refine box_event ?hg (N := 6) ?hd (cs := #[.int .i64 0, .bool false]) (t := 31) ?hr ?_; (case hd => rfl); (case hg => rfl); (case hr => first | (go_simp; done) | (go_simp; rfl)); intro gb157 hg w10 hbox hb; have BK157 := Aside0.mk (hbox); have GW157 := xg HB hg; have GE157 := xg HB hg; replace HB := xp HB hb; have NB155_157 := xl BK155 hg; have NB157_155 := xh BK155 hg; replace BK155 := xk BK155 hb; have NB156_157 := xl BK156 hg; have NB157_156 := xh BK156 hg; replace BK156 := xk BK156 hb; clear hb hbox hg; have hnb11 := NB156_155.out; have hnc11 := NB155_156.out; have hnb12 := NB156_157.out; have hnc12 := NB157_156.out; have hcz13_0 : w10.cell? ⟨gb156, 0, none⟩ = some (.int .i64 a1_0) := (blk_cell BK156.out 0).trans rfl; have hs_hcz13_0 := Ab.isAll hcz13_0; have hcz13_1 : w10.cell? ⟨gb156, 1, none⟩ = some (.bool true) := (blk_cell BK156.out 1).trans rfl; have hs_hcz13_1 := Ab.isAll hcz13_1; have hfz13_0 := blk_frozen BK156.out 0; have hfz13_1 := blk_frozen BK156.out 1; have hnb14 := NB155_157.out; have hnc14 := NB157_155.out; have hcz15_0 : w10.cell? ⟨gb155, 0, none⟩ = some (.int .i64 a0_0) := (blk_cell BK155.out 0).trans rfl; have hs_hcz15_0 := Ab.isAll hcz15_0; have hcz15_1 : w10.cell? ⟨gb155, 1, none⟩ = some (.int .i64 a0_1) := (blk_cell BK155.out 1).trans rfl; have hs_hcz15_1 := Ab.isAll hcz15_1; have hcz15_2 : w10.cell? ⟨gb155, 2, none⟩ = some (.int .i64 a0_2) := (blk_cell BK155.out 2).trans rfl; have hs_hcz15_2 := Ab.isAll hcz15_2; have hcz15_3 : w10.cell? ⟨gb155, 3, none⟩ = some (.int .i64 a0_3) := (blk_cell BK155.out 3).trans rfl; have hs_hcz15_3 := Ab.isAll hcz15_3; have hfz15_0 := blk_frozen BK155.out 0; have hfz15_1 := blk_frozen BK155.out 1; have hfz15_2 := blk_frozen BK155.out 2; have hfz15_3 := blk_frozen BK155.out 3; have hcz16_0 : w10.cell? ⟨gb157, 0, none⟩ = some (.int .i64 0) := (blk_cell BK157.out 0).trans rfl; have hs_hcz16_0 := Ab.isAll hcz16_0; have hcz16_1 : w10.cell? ⟨gb157, 1, none⟩ = some (.bool false) := (blk_cell BK157.out 1).trans rfl; have hs_hcz16_1 := Ab.isAll hcz16_1; have hfz16_0 := blk_frozen BK157.out 0; have hfz16_1 := blk_frozen BK157.out 1))
  refine bodyPost_ret (results_ctt rfl _ _ gb157 31 #[.int .i64 (wrap64 ((wrap64 ((wrap64 (a1_0 + a2)) - (ji4))) - (ji7))), .bool (decide ((wrap64 ((wrap64 ((wrap64 (a1_0 + a2)) - (ji4))) - (ji7))) > a0_1))] (0, 0) _ rfl (by (with_reducible repeat (first | refine blk_drewN ?_ _ | refine blk_drew ?_ | refine blk_alloc ?_ _)); refine blk_put (cs := #[.int .i64 (wrap64 ((wrap64 ((wrap64 (a1_0 + a2)) - (ji4))) - (ji7))), .bool false]) ?_ 1 _ rfl; (with_reducible repeat (first | refine blk_drewN ?_ _ | refine blk_drew ?_ | refine blk_alloc ?_ _)); refine blk_put (cs := #[.int .i64 0, .bool false]) ?_ 0 _ rfl; (with_reducible repeat (first | refine blk_drewN ?_ _ | refine blk_drew ?_ | refine blk_alloc ?_ _)); refine blk_far ?_ NB157_156.out _; (with_reducible repeat (first | refine blk_drewN ?_ _ | refine blk_drew ?_ | refine blk_alloc ?_ _)); refine blk_far ?_ NB157_156.out _; (with_reducible repeat (first | refine blk_drewN ?_ _ | refine blk_drew ?_ | refine blk_alloc ?_ _)); refine blk_far ?_ NB157_156.out _; (with_reducible repeat (first | refine blk_drewN ?_ _ | refine blk_drew ?_ | refine blk_alloc ?_ _)); refine blk_far ?_ NB157_156.out _; (with_reducible repeat (first | refine blk_drewN ?_ _ | refine blk_drew ?_ | refine blk_alloc ?_ _)); refine blk_far ?_ NB157_156.out _; (with_reducible repeat (first | refine blk_drewN ?_ _ | refine blk_drew ?_ | refine blk_alloc ?_ _)); exact BK157.out) Try.underlying31 rfl (by kernel_rfl)) rfl ?_
  exact ⟨by first | rfl | (simp [errW_none, errW_some] <;> rfl) | (simp only [← hji4, ← hji6, ← hji7]; first | rfl | (simp [errW_none, errW_some] <;> rfl)) | (simp [*, errW_none, errW_some] <;> rfl), by repeat (first | (with_reducible first | exact HB.out | apply below_alloc | apply pw_below_drewN | apply below_drew1 | refine below_set ?_ GE155.out | refine below_set ?_ GE156.out | refine below_set ?_ GE157.out) | exact HB.out)⟩
 ·replace c5 := Bool.eq_false_iff.mpr c5
  subst c5
  have H1 : (if (wrap64 ((wrap64 (a1_0 + a2)) - (ji4))) ≥ a0_2 then (some (wrap64 ((wrap64 ((wrap64 (a1_0 + a2)) - (ji4))) - (mn a0_3 (mx 0 (wrap64 ((wrap64 ((wrap64 (a1_0 + a2)) - (ji4))) - a0_1))))), decide ((wrap64 ((wrap64 ((wrap64 (a1_0 + a2)) - (ji4))) - (mn a0_3 (mx 0 (wrap64 ((wrap64 ((wrap64 (a1_0 + a2)) - (ji4))) - a0_1)))))) > a0_1), mn a0_3 (mx 0 (wrap64 ((wrap64 ((wrap64 (a1_0 + a2)) - (ji4))) - a0_1))), ji4)) else (some (wrap64 ((wrap64 (a1_0 + a2)) - (ji4)), decide ((wrap64 ((wrap64 (a1_0 + a2)) - (ji4))) ≥ a0_2), 0, ji4))) = some (r1, r2, r3, r4) := by rw [if_neg (show ¬ (false = true) by decide)] at H; exact H
  clear H
  have H := H1
  clear H1
  by_cases c17 : (wrap64 ((wrap64 (a1_0 + a2)) - (ji4))) ≥ a0_2
  ·rw [if_pos c17] at H
   have c17b0 : decide (a0_2 ≤ (wrap64 ((wrap64 (a1_0 + a2)) - (ji4)))) = true := decide_eq_true c17
   clear c17
   obtain ⟨ji18, hji18⟩ : ∃ j_ : Int, (mx 0 (wrap64 ((wrap64 ((wrap64 (a1_0 + a2)) - (ji4))) - a0_1))) = j_ := ⟨_, rfl⟩
   replace H : (some (wrap64 ((wrap64 ((wrap64 (a1_0 + a2)) - (ji4))) - (mn a0_3 (ji18))), decide ((wrap64 ((wrap64 ((wrap64 (a1_0 + a2)) - (ji4))) - (mn a0_3 (ji18)))) > a0_1), mn a0_3 (ji18), ji4)) = some (r1, r2, r3, r4) := by first | (rw [hji18] at H; exact H) | (simp only [hji18] at H ⊢; exact H)
   have hji18_ : (if 0 < (wrap64 ((wrap64 ((wrap64 (a1_0 + a2)) - (ji4))) - a0_1)) then (wrap64 ((wrap64 ((wrap64 (a1_0 + a2)) - (ji4))) - a0_1)) else 0) = ji18 := hji18
   obtain ⟨ji19, hji19⟩ : ∃ j_ : Int, (mn a0_3 (ji18)) = j_ := ⟨_, rfl⟩
   replace H : (some (wrap64 ((wrap64 ((wrap64 (a1_0 + a2)) - (ji4))) - (ji19)), decide ((wrap64 ((wrap64 ((wrap64 (a1_0 + a2)) - (ji4))) - (ji19))) > a0_1), ji19, ji4)) = some (r1, r2, r3, r4) := by first | (rw [hji19] at H; exact H) | (simp only [hji19] at H ⊢; exact H)
   have hji19_ : (if (ji18) < a0_3 then (ji18) else a0_3) = ji19 := hji19
   simp only [Option.some.injEq, Prod.mk.injEq] at H
   obtain ⟨rfl, rfl, rfl, rfl⟩ := H
   go_enter Try.func91, Try.ntmps91
   go_wp2_with (first | ((with_reducible refine gate_dst (N := 3) rfl ?_); refine box_event ?hg (N := 3) ?hd (cs := #[.int .i64 a0_0, .int .i64 a0_1, .int .i64 a0_2, .int .i64 a0_3]) (t := 29) ?hr ?_; (case hd => rfl); (case hg => rfl); (case hr => first | (go_simp; done) | (go_simp; rfl)); intro gb155 hg w20 hbox hb; have BK155 := Aside0.mk (hbox); have GW155 := xg HB hg; have GE155 := xg HB hg; replace HB := xp HB hb; clear hb hbox hg) | ((with_reducible refine gate_dst (N := 4) rfl ?_); refine box_event ?hg (N := 4) ?hd (cs := #[.int .i64 a1_0, .bool false]) (t := 31) ?hr ?_; (case hd => rfl); (case hg => rfl); (case hr => first | (go_simp; done) | (go_simp; rfl)); intro gb156 hg w21 hbox hb; have BK156 := Aside0.mk (hbox); have GW156 := xg HB hg; have GE156 := xg HB hg; replace HB := xp HB hb; have NB155_156 := xl BK155 hg; have NB156_155 := xh BK155 hg; replace BK155 := xk BK155 hb; clear hb hbox hg) | ((with_reducible refine gate_dst (N := 6) rfl ?_); refine box_event ?hg (N := 6) ?hd (cs := #[.int .i64 0, .bool false]) (t := 31) ?hr ?_; (case hd => rfl); (case hg => rfl); (case hr => first | (go_simp; done) | (go_simp; rfl)); intro gb157 hg w22 hbox hb; have BK157 := Aside0.mk (hbox); have GW157 := xg HB hg; have GE157 := xg HB hg; replace HB := xp HB hb; have NB155_157 := xl BK155 hg; have NB157_155 := xh BK155 hg; replace BK155 := xk BK155 hb; have NB156_157 := xl BK156 hg; have NB157_156 := xh BK156 hg; replace BK156 := xk BK156 hb; clear hb hbox hg; have hnb23 := NB156_155.out; have hnc23 := NB155_156.out; have hnb24 := NB156_157.out; have hnc24 := NB157_156.out; have hcz25_0 : w22.cell? ⟨gb156, 0, none⟩ = some (.int .i64 a1_0) := (blk_cell BK156.out 0).trans rfl; have hs_hcz25_0 := Ab.isAll hcz25_0; have hcz25_1 : w22.cell? ⟨gb156, 1, none⟩ = some (.bool false) := (blk_cell BK156.out 1).trans rfl; have hs_hcz25_1 := Ab.isAll hcz25_1; have hfz25_0 := blk_frozen BK156.out 0; have hfz25_1 := blk_frozen BK156.out 1; have hnb26 := NB155_157.out; have hnc26 := NB157_155.out; have hcz27_0 : w22.cell? ⟨gb155, 0, none⟩ = some (.int .i64 a0_0) := (blk_cell BK155.out 0).trans rfl; have hs_hcz27_0 := Ab.isAll hcz27_0; have hcz27_1 : w22.cell? ⟨gb155, 1, none⟩ = some (.int .i64 a0_1) := (blk_cell BK155.out 1).trans rfl; have hs_hcz27_1 := Ab.isAll hcz27_1; have hcz27_2 : w22.cell? ⟨gb155, 2, none⟩ = some (.int .i64 a0_2) := (blk_cell BK155.out 2).trans rfl; have hs_hcz27_2 := Ab.isAll hcz27_2; have hcz27_3 : w22.cell? ⟨gb155, 3, none⟩ = some (.int .i64 a0_3) := (blk_cell BK155.out 3).trans rfl; have hs_hcz27_3 := Ab.isAll hcz27_3; have hfz27_0 := blk_frozen BK155.out 0; have hfz27_1 := blk_frozen BK155.out 1; have hfz27_2 := blk_frozen BK155.out 2; have hfz27_3 := blk_frozen BK155.out 3; have hcz28_0 : w22.cell? ⟨gb157, 0, none⟩ = some (.int .i64 0) := (blk_cell BK157.out 0).trans rfl; have hs_hcz28_0 := Ab.isAll hcz28_0; have hcz28_1 : w22.cell? ⟨gb157, 1, none⟩ = some (.bool false) := (blk_cell BK157.out 1).trans rfl; have hs_hcz28_1 := Ab.isAll hcz28_1; have hfz28_0 := blk_frozen BK157.out 0; have hfz28_1 := blk_frozen BK157.out 1))
   refine bodyPost_ret (results_ctt rfl _ _ gb157 31 #[.int .i64 (wrap64 ((wrap64 ((wrap64 (a1_0 + a2)) - (ji4))) - (ji19))), .bool (decide ((wrap64 ((wrap64 ((wrap64 (a1_0 + a2)) - (ji4))) - (ji19))) > a0_1))] (0, 0) _ rfl (by (with_reducible repeat (first | refine blk_drewN ?_ _ | refine blk_drew ?_ | refine blk_alloc ?_ _)); refine blk_put (cs := #[.int .i64 (wrap64 ((wrap64 ((wrap64 (a1_0 + a2)) - (ji4))) - (ji19))), .bool false]) ?_ 1 _ rfl; (with_reducible repeat (first | refine blk_drewN ?_ _ | refine blk_drew ?_ | refine blk_alloc ?_ _)); refine blk_put (cs := #[.int .i64 0, .bool false]) ?_ 0 _ rfl; (with_reducible repeat (first | refine blk_drewN ?_ _ | refine blk_drew ?_ | refine blk_alloc ?_ _)); refine blk_far ?_ NB157_156.out _; (with_reducible repeat (first | refine blk_drewN ?_ _ | refine blk_drew ?_ | refine blk_alloc ?_ _)); refine blk_far ?_ NB157_156.out _; (with_reducible repeat (first | refine blk_drewN ?_ _ | refine blk_drew ?_ | refine blk_alloc ?_ _)); refine blk_far ?_ NB157_156.out _; (with_reducible repeat (first | refine blk_drewN ?_ _ | refine blk_drew ?_ | refine blk_alloc ?_ _)); refine blk_far ?_ NB157_156.out _; (with_reducible repeat (first | refine blk_drewN ?_ _ | refine blk_drew ?_ | refine blk_alloc ?_ _)); refine blk_far ?_ NB157_156.out _; (with_reducible repeat (first | refine blk_drewN ?_ _ | refine blk_drew ?_ | refine blk_alloc ?_ _)); exact BK157.out) Try.underlying31 rfl (by kernel_rfl)) rfl ?_
   exact ⟨by first | rfl | (simp [errW_none, errW_some] <;> rfl) | (simp only [← hji4, ← hji18, ← hji19]; first | rfl | (simp [errW_none, errW_some] <;> rfl)) | (simp [*, errW_none, errW_some] <;> rfl), by repeat (first | (with_reducible first | exact HB.out | apply below_alloc | apply pw_below_drewN | apply below_drew1 | refine below_set ?_ GE155.out | refine below_set ?_ GE156.out | refine below_set ?_ GE157.out) | exact HB.out)⟩
  ·rw [if_neg c17] at H
   have c17b0 : decide (a0_2 ≤ (wrap64 ((wrap64 (a1_0 + a2)) - (ji4)))) = false := decide_eq_false c17
   clear c17
   simp only [Option.some.injEq, Prod.mk.injEq] at H
   obtain ⟨rfl, rfl, rfl, rfl⟩ := H
   go_enter Try.func91, Try.ntmps91
   go_wp2_with (first | ((with_reducible refine gate_dst (N := 3) rfl ?_); refine box_event ?hg (N := 3) ?hd (cs := #[.int .i64 a0_0, .int .i64 a0_1, .int .i64 a0_2, .int .i64 a0_3]) (t := 29) ?hr ?_; (case hd => rfl); (case hg => rfl); (case hr => first | (go_simp; done) | (go_simp; rfl)); intro gb155 hg w29 hbox hb; have BK155 := Aside0.mk (hbox); have GW155 := xg HB hg; have GE155 := xg HB hg; replace HB := xp HB hb; clear hb hbox hg) | ((with_reducible refine gate_dst (N := 4) rfl ?_); refine box_event ?hg (N := 4) ?hd (cs := #[.int .i64 a1_0, .bool false]) (t := 31) ?hr ?_; (case hd => rfl); (case hg => rfl); (case hr => first | (go_simp; done) | (go_simp; rfl)); intro gb156 hg w30 hbox hb; have BK156 := Aside0.mk (hbox); have GW156 := xg HB hg; have GE156 := xg HB hg; replace HB := xp HB hb; have NB155_156 := xl BK155 hg; have NB156_155 := xh BK155 hg; replace BK155 := xk BK155 hb; clear hb hbox hg) | ((with_reducible refine gate_dst (N := 6) rfl ?_); refine box_event ?hg (N := 6) ?hd (cs := #[.int .i64 0, .bool false]) (t := 31) ?hr ?_; (case hd => rfl); (case hg => rfl); (case hr => first | (go_simp; done) | (go_simp; rfl)); intro gb157 hg w31 hbox hb; have BK157 := Aside0.mk (hbox); have GW157 := xg HB hg; have GE157 := xg HB hg; replace HB := xp HB hb; have NB155_157 := xl BK155 hg; have NB157_155 := xh BK155 hg; replace BK155 := xk BK155 hb; have NB156_157 := xl BK156 hg; have NB157_156 := xh BK156 hg; replace BK156 := xk BK156 hb; clear hb hbox hg; have hnb32 := NB156_155.out; have hnc32 := NB155_156.out; have hnb33 := NB156_157.out; have hnc33 := NB157_156.out; have hcz34_0 : w31.cell? ⟨gb156, 0, none⟩ = some (.int .i64 a1_0) := (blk_cell BK156.out 0).trans rfl; have hs_hcz34_0 := Ab.isAll hcz34_0; have hcz34_1 : w31.cell? ⟨gb156, 1, none⟩ = some (.bool false) := (blk_cell BK156.out 1).trans rfl; have hs_hcz34_1 := Ab.isAll hcz34_1; have hfz34_0 := blk_frozen BK156.out 0; have hfz34_1 := blk_frozen BK156.out 1; have hnb35 := NB155_157.out; have hnc35 := NB157_155.out; have hcz36_0 : w31.cell? ⟨gb155, 0, none⟩ = some (.int .i64 a0_0) := (blk_cell BK155.out 0).trans rfl; have hs_hcz36_0 := Ab.isAll hcz36_0; have hcz36_1 : w31.cell? ⟨gb155, 1, none⟩ = some (.int .i64 a0_1) := (blk_cell BK155.out 1).trans rfl; have hs_hcz36_1 := Ab.isAll hcz36_1; have hcz36_2 : w31.cell? ⟨gb155, 2, none⟩ = some (.int .i64 a0_2) := (blk_cell BK155.out 2).trans rfl; have hs_hcz36_2 := Ab.isAll hcz36_2; have hcz36_3 : w31.cell? ⟨gb155, 3, none⟩ = some (.int .i64 a0_3) := (blk_cell BK155.out 3).trans rfl; have hs_hcz36_3 := Ab.isAll hcz36_3; have hfz36_0 := blk_frozen BK155.out 0; have hfz36_1 := blk_frozen BK155.out 1; have hfz36_2 := blk_frozen BK155.out 2; have hfz36_3 := blk_frozen BK155.out 3; have hcz37_0 : w31.cell? ⟨gb157, 0, none⟩ = some (.int .i64 0) := (blk_cell BK157.out 0).trans rfl; have hs_hcz37_0 := Ab.isAll hcz37_0; have hcz37_1 : w31.cell? ⟨gb157, 1, none⟩ = some (.bool false) := (blk_cell BK157.out 1).trans rfl; have hs_hcz37_1 := Ab.isAll hcz37_1; have hfz37_0 := blk_frozen BK157.out 0; have hfz37_1 := blk_frozen BK157.out 1))
   refine bodyPost_ret (results_ctt rfl _ _ gb157 31 #[.int .i64 (wrap64 ((wrap64 (a1_0 + a2)) - (ji4))), .bool false] (0, 0) _ rfl (by (with_reducible repeat (first | refine blk_drewN ?_ _ | refine blk_drew ?_ | refine blk_alloc ?_ _)); refine blk_put (cs := #[.int .i64 (wrap64 ((wrap64 (a1_0 + a2)) - (ji4))), .bool false]) ?_ 1 _ rfl; (with_reducible repeat (first | refine blk_drewN ?_ _ | refine blk_drew ?_ | refine blk_alloc ?_ _)); refine blk_put (cs := #[.int .i64 0, .bool false]) ?_ 0 _ rfl; (with_reducible repeat (first | refine blk_drewN ?_ _ | refine blk_drew ?_ | refine blk_alloc ?_ _)); refine blk_far ?_ NB157_156.out _; (with_reducible repeat (first | refine blk_drewN ?_ _ | refine blk_drew ?_ | refine blk_alloc ?_ _)); refine blk_far ?_ NB157_156.out _; (with_reducible repeat (first | refine blk_drewN ?_ _ | refine blk_drew ?_ | refine blk_alloc ?_ _)); refine blk_far ?_ NB157_156.out _; (with_reducible repeat (first | refine blk_drewN ?_ _ | refine blk_drew ?_ | refine blk_alloc ?_ _)); exact BK157.out) Try.underlying31 rfl (by kernel_rfl)) rfl ?_
   exact ⟨by first | rfl | (simp [errW_none, errW_some] <;> rfl) | (simp only [← hji4]; first | rfl | (simp [errW_none, errW_some] <;> rfl)) | (simp [*, errW_none, errW_some] <;> rfl), by repeat (first | (with_reducible first | exact HB.out | apply below_alloc | apply pw_below_drewN | apply below_drew1 | refine below_set ?_ GE155.out | refine below_set ?_ GE156.out | refine below_set ?_ GE157.out) | exact HB.out)⟩

end Go.Proofs.Ytminippcikenfaa.PFnExactChainOuts

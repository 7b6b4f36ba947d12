/- Lean functions of the Go functions that the law FnExactStatesAlong reaches, and the proofs that the calls come to what they say (made by program). -/
import Derived.Test.YtobkbpoamicjgaaAb
import Derived.Test.YtobkbpoamicjgaaPFnExactStatesAlongx0
namespace Go.Proofs.Ytobkbpoamicjgaa.PFnExactStatesAlong
open Go.RowKit Go.Proofs.YtobkbpoamicjgaaW.PrintWords Go.Proofs.YtobkbpoamicjgaaW.PrintLast Go.Proofs.YtobkbpoamicjgaaW.PrintMore Go.Proofs.Ytobkbpoamicjgaa.Ab
attribute [local go_sem] max2_int min2_int max_two min_two max_three min_three max_four min_four   -- for this text's walks alone
set_option linter.unusedVariables false
set_option linter.unusedSimpArgs false

/-! ### impl_within: function 72 -/
def impl_within.f (a0 : Int) (a1 : Int) (a2 : Int) : Option (Bool) := if a1 ≤ a0 then (some (decide (a0 ≤ a2))) else (some false)
set_option maxHeartbeats 8000000 in
set_option maxRecDepth 100000 in
theorem impl_within.calls (a0 : Int) (a1 : Int) (a2 : Int) (r : Bool) (w : World) (h : impl_within.f a0 a1 a2 = some r) :
  Calls Try.prog 72 #[.int .i64 a0, .int .i64 a1, .int .i64 a2] w fun e w' => e = .returned (.bool r) ∧ Drawn0 w w' := by
 have H : (if a1 ≤ a0 then (some (decide (a0 ≤ a2))) else (some false)) = some r := h
 clear h
 by_cases c4 : a1 ≤ a0
 ·rw [if_pos c4] at H
  have c4b0 : decide (a1 ≤ a0) = true := decide_eq_true c4
  clear c4
  obtain rfl := Option.some.inj H
  go_enter Try.func72, Try.ntmps72
  go_wp2
  go_ret
  exact ⟨by first | rfl | (simp; done) | (simp [*]; done), by repeat (first | exact Drawn0.refl _ | apply Drawn0.step)⟩
 ·rw [if_neg c4] at H
  have c4b0 : decide (a1 ≤ a0) = false := decide_eq_false c4
  clear c4
  obtain rfl := Option.some.inj H
  go_enter Try.func72, Try.ntmps72
  go_wp2
  go_ret
  exact ⟨by first | rfl | (simp; done) | (simp [*]; done), by repeat (first | exact Drawn0.refl _ | apply Drawn0.step)⟩

-- NOT PRINTED: function 120 (slices_IndexFunc_int_int)

-- NOT PRINTED: function 114 (slices_ContainsFunc_int_int)

/-- slices.IndexFunc over whole numbers, whatever the function value: where it first holds, or -1. -/
theorem indexInts.calls (p : Int → Bool) (g : Nat) (lb : Array Value) (eg : ∀ args w, (callFunc g args).run Try.prog w = .ok (.enter g args) w) (A0 : Option Addr) (c0 : Nat) (l0 : List Int) (w : World)
  (hp : ∀ (W : World) (x : Int), Below w.heap.size w W → Calls Try.prog g (#[.int .i64 x] ++ lb) W fun e w' => e = .returned (.bool (p x)) ∧ Below w.heap.size w w')
  (hr0 : Kd.C (Kd.int .i64) w A0 l0.length l0) :
  Calls Try.prog 120 #[.slice A0 l0.length c0, .func (.func g) #[] lb] w fun e w' => ∃ r : Int, e = .returned (.int .i64 r) ∧ decide (r ≥ 0) = l0.any p ∧ Below w.heap.size w w' := by
 have HR0 := Aside0.mk hr0
 clear hr0
 have HN := Aside0.mk (HR0.out.2.1)
 go_enter Try.func120, Try.ntmps120
 go_wp2
 go_loopg [5, 8] l0.length (fun gg _ s8 wr => ∃ x8 : Int, s8 = .int .i64 x8 ∧ Aside0 (0 ≤ x8 ∧ x8 ≤ l0.length) ∧ Aside0 (l0.length - x8.toNat ≤ gg) ∧ Aside0 (Below w.heap.size w wr) ∧ Aside0 (∀ j : Nat, j < x8.toNat → p (rd l0 j) = false))
 case atStart => exact ⟨0, rfl, ⟨by omega⟩, ⟨by simp⟩, ⟨Below.refl _ w⟩, ⟨fun j hj => absurd hj (by simp)⟩⟩
 case round =>
  obtain ⟨x8, rfl, HX, HG, HB, HA⟩ := hrel
  by_cases hlt : x8 < (l0.length : Int)
  ·have c1 : decide (x8 < (l0.length : Int)) = true := decide_eq_true hlt
   have c2 : decide (0 ≤ x8) = true := decide_eq_true HX.out.1
   obtain ⟨ad, e1, hx⟩ := Kd.at_int (Kd.C_below HR0.out HB.out) x8 HX.out.1 hlt
   cases e1
   have q1 := eq_true HX.out.1
   have q2 := eq_true hlt
   have HL := Aside0.mk hlt
   clear hlt
   have hcall := Aside0.mk (hp wr (rd l0 x8) HB.out)
   have HP := Aside0.mk hp
   clear hp
   cases hq : p (rd l0 x8) with
   | true =>
    have HQ := Aside0.mk hq
    clear hq
    go_wp2_with (go_at_fn g; refine hcall.out.mono ?_; rintro e w' ⟨rfl, hb'⟩; have HB' := Aside0.mk hb'; clear hb'; simp only [HQ.out])
    go_ret
    refine ⟨x8, rfl, ?_, HB'.out⟩
    rw [decide_eq_true HX.out.1]
    refine (List.any_eq_true.mpr ⟨rd l0 x8, ?_, HQ.out⟩).symm
    have hn : x8.toNat < l0.length := by have := HX.out.1; have := HL.out; omega
    unfold rd
    rw [List.getD_eq_getElem?_getD, List.getElem?_eq_getElem hn]
    exact List.getElem_mem hn
   | false =>
    have HQ := Aside0.mk hq
    clear hq
    go_wp2_with (go_at_fn g; refine hcall.out.mono ?_; rintro e w' ⟨rfl, hb'⟩; have HB' := Aside0.mk hb'; clear hb'; simp only [HQ.out])
    go_roundg (l0.length - (x8.toNat + 1))
    case measure => have := HG.out; have := HX.out.1; have := HL.out; omega
    case rel =>
     have hw : wrap64 (x8 + 1) = x8 + 1 := by have := HX.out.1; have := HL.out; have := HN.out; unfold wrap64; omega
     refine ⟨x8 + 1, by rw [hw], ⟨by have := HX.out.1; have := HL.out; omega⟩, ⟨by have := HX.out.1; omega⟩, ⟨HB'.out⟩, ⟨fun j hj => ?_⟩⟩
     by_cases e : j < x8.toNat
     ·exact HA.out j e
     ·have : (j : Int) = x8 := by have := HX.out.1; omega
      rw [this]
      exact HQ.out
  ·have c1 : decide (x8 < (l0.length : Int)) = false := decide_eq_false hlt
   have HL := Aside0.mk hlt
   clear hlt
   go_wp2
   go_ret
   refine ⟨-1, rfl, ?_, HB.out⟩
   rw [decide_eq_false (by decide)]
   refine (List.any_eq_false.mpr fun x hx => ?_).symm
   obtain ⟨j, hj, rfl⟩ := List.mem_iff_getElem.1 hx
   have := HA.out j (by have := HX.out; have := HL.out; omega)
   unfold rd at this
   rw [List.getD_eq_getElem?_getD, Int.toNat_natCast, List.getElem?_eq_getElem hj] at this
   simpa using this

theorem containsInts.calls (p : Int → Bool) (g : Nat) (lb : Array Value) (eg : ∀ args w, (callFunc g args).run Try.prog w = .ok (.enter g args) w) (A0 : Option Addr) (c0 : Nat) (l0 : List Int) (w : World)
  (hp : ∀ (W : World) (x : Int), Below w.heap.size w W → Calls Try.prog g (#[.int .i64 x] ++ lb) W fun e w' => e = .returned (.bool (p x)) ∧ Below w.heap.size w w')
  (hr0 : Kd.C (Kd.int .i64) w A0 l0.length l0) :
  Calls Try.prog 114 #[.slice A0 l0.length c0, .func (.func g) #[] lb] w fun e w' => e = .returned (.bool (l0.any p)) ∧ Below w.heap.size w w' := by
 have hc := Aside0.mk (indexInts.calls p g lb eg A0 c0 l0 w hp hr0)
 clear hp hr0
 go_enter Try.func114, Try.ntmps114
 go_wp2_with (go_at_call 120; refine hc.out.mono ?_; rintro e w' ⟨r, rfl, hr, hb⟩; have HB := Aside0.mk hb; have HR := Aside0.mk hr; clear hb hr)
 go_ret
 refine ⟨?_, HB.out⟩
 rw [← HR.out]
 first | rfl | simp

/-! ### impl_areWithin: function 98 -/
def impl_areWithin.f (l0 : List Int) (a1 : Int) (a2 : Int) : Option (Bool) := some (!(l0.any fun x => !(decide (a1 ≤ x) && decide (x ≤ a2))))
theorem impl_areWithin.closure (a1 a2 : Int) (B : Nat) (w : World) (hB : B + 1 < w.heap.size) (h1 : w.cell? ⟨B, 0, none⟩ = some (.int .i64 a1)) (h2 : w.cell? ⟨B + 1, 0, none⟩ = some (.int .i64 a2)) (W : World) (x : Int) (hb : Below w.heap.size w W) :
  Calls Try.prog 115 (#[.int .i64 x] ++ #[.pointer (some ⟨B, 0, none⟩), .pointer (some ⟨B + 1, 0, none⟩)]) W fun e w' => e = .returned (.bool (!(decide (a1 ≤ x) && decide (x ≤ a2)))) ∧ Below w.heap.size w w' := by
 have g1 := (hb.cell (p := ⟨B, 0, none⟩) (show B < w.heap.size by omega)).trans h1
 have g2 := (hb.cell (p := ⟨B + 1, 0, none⟩) hB).trans h2
 have HB := Aside0.mk hb
 clear hb h1 h2
 show Calls Try.prog 115 #[.int .i64 x, .pointer (some ⟨B, 0, none⟩), .pointer (some ⟨B + 1, 0, none⟩)] W _
 by_cases c : a1 ≤ x
 ·have hw := Aside0.mk (fun W' => impl_within.calls x a1 a2 (decide (x ≤ a2)) W' (by unfold impl_within.f; rw [if_pos c]))
  rw [decide_eq_true c]
  clear c
  go_enter Try.func115, Try.ntmps115
  go_wp2_with (go_at_call 72; refine (hw.out _).mono ?_; rintro e w' ⟨rfl, hd⟩; obtain ⟨q, rfl⟩ := hd.out)
  go_ret
  exact ⟨by first | rfl | simp, by first | exact HB.out | exact pw_below_drewN HB.out _⟩
 ·have hw := Aside0.mk (fun W' => impl_within.calls x a1 a2 false W' (by unfold impl_within.f; rw [if_neg c]))
  rw [decide_eq_false c]
  clear c
  go_enter Try.func115, Try.ntmps115
  go_wp2_with (go_at_call 72; refine (hw.out _).mono ?_; rintro e w' ⟨rfl, hd⟩; obtain ⟨q, rfl⟩ := hd.out)
  go_ret
  exact ⟨by first | rfl | simp, by first | exact HB.out | exact pw_below_drewN HB.out _⟩
set_option maxHeartbeats 2000000 in
theorem impl_areWithin.calls (A0 : Option Addr) (c0 : Nat) (l0 : List Int) (a1 : Int) (a2 : Int) (r : Bool) (w : World) (hr0 : Kd.C (Kd.int .i64) w A0 l0.length l0) (hc0 : l0.length ≤ c0) (h : impl_areWithin.f l0 a1 a2 = some r) :
  Calls Try.prog 98 #[.slice A0 l0.length c0, .int .i64 a1, .int .i64 a2] w fun e w' => e = .returned (.bool r) ∧ Below w.heap.size w w' := by
 obtain rfl := Option.some.inj h
 clear h
 have HR0 := Aside0.mk hr0
 clear hr0
 have hC := Aside0.mk (fun (W : World) (hb : Below w.heap.size w W) (hB : w.heap.size + 1 < W.heap.size) (h1 : W.cell? ⟨w.heap.size, 0, none⟩ = some (.int .i64 a1)) (h2 : W.cell? ⟨w.heap.size + 1, 0, none⟩ = some (.int .i64 a2)) =>
  containsInts.calls (fun x => !(decide (a1 ≤ x) && decide (x ≤ a2))) 115 #[.pointer (some ⟨w.heap.size, 0, none⟩), .pointer (some ⟨w.heap.size + 1, 0, none⟩)] (enters_of Try.func115 (by kernel_rfl) rfl) A0 c0 l0 W
   (fun W' x hb' => impl_areWithin.closure a1 a2 w.heap.size W hB h1 h2 W' x hb') (Kd.C_below HR0.out hb))
 have HW := Aside0.mk (Below.refl w.heap.size w)
 go_enter Try.func98, Try.ntmps98
 go_wp2_with (go_at_call 114; refine (hC.out _ (by first | exact below_alloc (below_alloc HW.out _) _) (by simp) (by simp) (by simp)).mono ?_; rintro e w' ⟨rfl, hb⟩; have HB := Aside0.mk hb; clear hb)
 go_ret
 refine ⟨by first | rfl | simp, ?_⟩
 have h0 := below_alloc (below_alloc HW.out (.cells #[.int .i64 a1] 3)) (.cells #[.int .i64 a2] 3)
 exact below_then h0 h0.size HB.out

/-! ### impl_AreVessels: function 71 -/
mutual
def impl_AreVessels.j0 : Nat → Bool → List Int → List Int → Option (Bool)
  | 0, _, _, _ => none
  | k + 1, x24, x235000, x235001 => if x24 = true then (some false) else (impl_AreVessels.l0 k x235001 (x235001.length : Int) 0 x235000 x235001)
def impl_AreVessels.l0 : Nat → List Int → Int → Int → List Int → List Int → Option (Bool)
  | 0, _, _, _, _, _ => none
  | k + 1, x26, x27, x28, x235000, x235001 => if x28 < x27 then (if 0 ≤ x28 then (if x28 < (x26.length : Int) then (if x28 < (x235000.length : Int) then ((impl_within.f (rd x26 x28) 0 (rd x235000 x28)).bind fun t239 => (if t239 = true then (impl_AreVessels.l0 k x26 x27 (wrap64 (x28 + 1)) x235000 x235001) else (some false))) else (none)) else (none)) else (none)) else (some true)
end
def impl_AreVessels.f (k : Nat) (l0_0 : List Int) (l0_1 : List Int) : Option (Bool) := (impl_within.f (l0_0.length : Int) 1 5).bind fun t235 => (if t235 = true then (if (l0_1.length : Int) = (l0_0.length : Int) then ((impl_areWithin.f l0_0 1 60).bind fun t236 => (impl_AreVessels.j0 k (!t236) l0_0 l0_1)) else (impl_AreVessels.j0 k true l0_0 l0_1)) else (impl_AreVessels.j0 k true l0_0 l0_1))
theorem impl_AreVessels.mono_l : ∀ k, (∀ y0 y1 y2, LeO (impl_AreVessels.j0 k y0 y1 y2) (impl_AreVessels.j0 (k + 1) y0 y1 y2)) ∧ (∀ y0 y1 y2 y3 y4, LeO (impl_AreVessels.l0 k y0 y1 y2 y3 y4) (impl_AreVessels.l0 (k + 1) y0 y1 y2 y3 y4))
 | 0 => ⟨fun _ _ _ r h => by simp [impl_AreVessels.j0] at h, fun _ _ _ _ _ r h => by simp [impl_AreVessels.l0] at h⟩
 | k + 1 => by
  obtain ⟨ih0, ih1⟩ := impl_AreVessels.mono_l k
  refine ⟨?_, ?_⟩
  ·intro y0 y1 y2
   unfold impl_AreVessels.j0
   repeat' first
   | (with_reducible exact ih0 _ _ _)
   | (with_reducible exact ih1 _ _ _ _ _)
   | (with_reducible exact LeO.refl _)
   | (with_reducible exact LeO.none _)
   | (with_reducible refine LeO.ite ?_ ?_)
   | (with_reducible refine LeO.bind ?_ (fun _ => ?_))
   | exact ih0 _ _ _
   | exact ih1 _ _ _ _ _
   | exact LeO.none _
   | refine LeO.ite ?_ ?_
   | refine LeO.bind ?_ (fun _ => ?_)
  ·intro y0 y1 y2 y3 y4
   unfold impl_AreVessels.l0
   repeat' first
   | (with_reducible exact ih0 _ _ _)
   | (with_reducible exact ih1 _ _ _ _ _)
   | (with_reducible exact LeO.refl _)
   | (with_reducible exact LeO.none _)
   | (with_reducible refine LeO.ite ?_ ?_)
   | (with_reducible refine LeO.bind ?_ (fun _ => ?_))
   | exact ih0 _ _ _
   | exact ih1 _ _ _ _ _
   | exact LeO.none _
   | refine LeO.ite ?_ ?_
   | refine LeO.bind ?_ (fun _ => ?_)
theorem impl_AreVessels.mono : ∀ a0 a1 k, LeO (impl_AreVessels.f k a0 a1) (impl_AreVessels.f (k + 1) a0 a1) := by
 intro a0 a1 k
 obtain ⟨ih0, ih1⟩ := impl_AreVessels.mono_l k
 unfold impl_AreVessels.f
 repeat' first
   | (with_reducible exact ih0 _ _ _)
   | (with_reducible exact ih1 _ _ _ _ _)
   | (with_reducible exact LeO.refl _)
   | (with_reducible exact LeO.none _)
   | (with_reducible refine LeO.ite ?_ ?_)
   | (with_reducible refine LeO.bind ?_ (fun _ => ?_))
   | exact ih0 _ _ _
   | exact ih1 _ _ _ _ _
   | exact LeO.none _
   | refine LeO.ite ?_ ?_
   | refine LeO.bind ?_ (fun _ => ?_)
set_option maxHeartbeats 8000000 in
set_option maxRecDepth 100000 in
theorem impl_AreVessels.calls (k : Nat) (A0_0 : Option Addr) (c0_0 : Nat) (l0_0 : List Int) (A0_1 : Option Addr) (c0_1 : Nat) (l0_1 : List Int) (r : Bool) (w : World) (hr0_0 : Kd.C (Kd.int .i64) w A0_0 l0_0.length l0_0) (hc0_0 : l0_0.length ≤ c0_0) (hr0_1 : Kd.C (Kd.int .i64) w A0_1 l0_1.length l0_1) (hc0_1 : l0_1.length ≤ c0_1) (h : impl_AreVessels.f k l0_0 l0_1 = some r) :
  Calls Try.prog 71 #[.agg #[.slice A0_0 l0_0.length c0_0, .slice A0_1 l0_1.length c0_1]] w fun e w' => e = .returned (.bool r) ∧ Below w.heap.size w w' := by
 have hu26 := Try.underlying26
 have HR0_0 := Aside0.mk hr0_0
 have HC0_0 := Aside0.mk hc0_0
 clear hr0_0 hc0_0
 have HR0_1 := Aside0.mk hr0_1
 have HC0_1 := Aside0.mk hc0_1
 clear hr0_1 hc0_1
 have HB := Aside0.mk (Below.refl w.heap.size w)
 have H : ((impl_within.f (l0_0.length : Int) 1 5).bind fun t235 => (if t235 = true then (if (l0_1.length : Int) = (l0_0.length : Int) then ((impl_areWithin.f l0_0 1 60).bind fun t236 => (impl_AreVessels.j0 k (!t236) l0_0 l0_1)) else (impl_AreVessels.j0 k true l0_0 l0_1)) else (impl_AreVessels.j0 k true l0_0 l0_1))) = some r := h
 clear h
 have HC2 := Aside0.mk H
 clear H
 go_enter Try.func71, Try.ntmps71
 go_upto_region 1 with (first | ((with_reducible refine gate_dst (N := 1) rfl ?_); (try (refine gate_guard (by rfl) ?_; dsimp only)); refine box_event ?hg (N := 1) ?hd (cs := #[.slice A0_0 l0_0.length c0_0, .slice A0_1 l0_1.length c0_1]) (t := 26) ?hr ?_; (case hd => rfl); (case hg => rfl); (case hr => first | (go_simp; done) | (go_simp; rfl)); intro gb234 hg w3 hbox hb; have BK234 := Aside0.mk (hbox); have GW234 := xg HB hg; have GE234 := xg HB hg; replace HB := xp HB hb; clear hb hbox hg))
 (try simp only [Act.put, List.setIfInBounds_toArray, List.set_cons_zero, List.set_cons_succ])
 go_cut [24] (fun v24 wc => ∃ (kq : Nat) (x24_1 : Bool), v24 = .bool x24_1 ∧ Aside0 (impl_AreVessels.j0 kq x24_1 l0_0 l0_1 = some r) ∧ Aside0 (kq ≤ k) ∧ Aside0 (wc.heap[gb234]? = some (.cells #[(.slice A0_0 l0_0.length c0_0), (.slice A0_1 l0_1.length c0_1)] 26 (0, 0))) ∧ Aside0 (Below w.heap.size w wc))
 case first =>
  have H := HC2.out
  clear HC2
  replace H := Option.bind_eq_some_iff.mp H
  obtain ⟨t235, A40, H⟩ := H
  replace H : (if t235 = true then (if (l0_1.length : Int) = (l0_0.length : Int) then ((impl_areWithin.f l0_0 1 60).bind fun t236 => (impl_AreVessels.j0 k (!t236) l0_0 l0_1)) else (impl_AreVessels.j0 k true l0_0 l0_1)) else (impl_AreVessels.j0 k true l0_0 l0_1)) = some r := H
  have A4 := Aside0.mk A40
  clear A40
  by_cases c5 : t235 = true
  ·subst c5
   have H1 : (if (l0_1.length : Int) = (l0_0.length : Int) then ((impl_areWithin.f l0_0 1 60).bind fun t236 => (impl_AreVessels.j0 k (!t236) l0_0 l0_1)) else (impl_AreVessels.j0 k true l0_0 l0_1)) = some r := by rw [if_pos rfl] at H; exact H
   clear H
   have H := H1
   clear H1
   by_cases c6 : (l0_1.length : Int) = (l0_0.length : Int)
   ·rw [if_pos c6] at H
    have c6b0 : ((l0_1.length : Int) == (l0_0.length : Int)) = true := beq_iff_eq.mpr c6
    have c6b1 : ((l0_1.length : Int) != (l0_0.length : Int)) = false := bne_eq_false_iff_eq.mpr c6
    have c6b2 : (l0_1.length == l0_0.length) = true := by first | simpa using c6 | (simp at c6 ⊢; omega)
    clear c6
    (first | rw [c6b0] | (simp only [i64_w, i32_w]; rw [c6b0]) | skip)
    replace H := Option.bind_eq_some_iff.mp H
    obtain ⟨t236, A70, H⟩ := H
    replace H : (impl_AreVessels.j0 k (!t236) l0_0 l0_1) = some r := H
    have A7 := Aside0.mk A70
    clear A70
    have H' := Aside0.mk H
    clear H
    have hcz8_0 : w3.cell? ⟨gb234, 0, none⟩ = some (.slice A0_0 l0_0.length c0_0) := (blk_cell BK234.out 0).trans rfl
    have hcz8_1 : w3.cell? ⟨gb234, 1, none⟩ = some (.slice A0_1 l0_1.length c0_1) := (blk_cell BK234.out 1).trans rfl
    have hfz8_0 := blk_frozen BK234.out 0
    have hfz8_1 := blk_frozen BK234.out 1
    go_wp2_with (first | ((with_reducible refine gate_callee (f := 72) rfl ?_); refine goesL_ (some 8) rfl rfl Try.func72 (by kernel_rfl) rfl #[.int .i64 (l0_0.length : Int), .int .i64 1, .int .i64 5] rfl (by (try simp only [List.map_toArray, List.map_cons, List.map_nil]); first | done | rfl | (simp only [List.length_drop, List.length_take]; rfl)) ?_; (with_reducible refine (impl_within.calls (l0_0.length : Int) 1 5 true _ A4.out).mono ?_); rintro e w' ⟨rfl, ⟨nd, rfl⟩⟩; refine ⟨_, rfl, ?_⟩) | (go_at_call 98; (with_reducible refine (impl_areWithin.calls _ _ l0_0 1 60 t236 _ ?side1 ?side2 A7.out).mono ?_); (case side1 => repeat (first | exact (Kd.C_below HR0_0.out (xs HB.out)) | (with_reducible refine Kd.C_alloc ?_ _) | (with_reducible refine Kd.C_drewN ?_ _) | (with_reducible refine Kd.C_drew ?_))); (case side2 => exact HC0_0.out); rintro e w9 ⟨rfl, hb⟩; replace BK234 := xk BK234 hb; replace HB := xp HB hb; (try clear hb); (try clear hb2); (try clear hk); (try clear hi)))
    go_meet
    case rel => exact ⟨_, (!t236), (by first | rfl | (simp; done) | (simp [*]; done)), H', ⟨by first | omega | exact Nat.le_refl _⟩, ⟨xb BK234.out⟩, ⟨xs HB.out⟩⟩
   ·rw [if_neg c6] at H
    have c6b0 : ((l0_1.length : Int) == (l0_0.length : Int)) = false := beq_eq_false_iff_ne.mpr c6
    have c6b1 : ((l0_1.length : Int) != (l0_0.length : Int)) = true := bne_iff_ne.mpr c6
    have c6b2 : (l0_1.length == l0_0.length) = false := by first | simpa using c6 | (simp at c6 ⊢; omega)
    (first | rw [c6b0] | (simp only [i64_w, i32_w]; rw [c6b0]) | skip)
    have H' := Aside0.mk H
    clear H
    have hcz10_0 : w3.cell? ⟨gb234, 0, none⟩ = some (.slice A0_0 l0_0.length c0_0) := (blk_cell BK234.out 0).trans rfl
    have hcz10_1 : w3.cell? ⟨gb234, 1, none⟩ = some (.slice A0_1 l0_1.length c0_1) := (blk_cell BK234.out 1).trans rfl
    have hfz10_0 := blk_frozen BK234.out 0
    have hfz10_1 := blk_frozen BK234.out 1
    go_wp2_with (first | ((with_reducible refine gate_callee (f := 72) rfl ?_); refine goesL_ (some 8) rfl rfl Try.func72 (by kernel_rfl) rfl #[.int .i64 (l0_0.length : Int), .int .i64 1, .int .i64 5] rfl (by (try simp only [List.map_toArray, List.map_cons, List.map_nil]); first | done | rfl | (simp only [List.length_drop, List.length_take]; rfl)) ?_; (with_reducible refine (impl_within.calls (l0_0.length : Int) 1 5 true _ A4.out).mono ?_); rintro e w' ⟨rfl, ⟨nd, rfl⟩⟩; refine ⟨_, rfl, ?_⟩))
    go_meet
    case rel => exact ⟨_, (true), (by first | rfl | (simp; done) | (simp [*]; done)), H', ⟨by first | omega | exact Nat.le_refl _⟩, ⟨xb BK234.out⟩, ⟨xs HB.out⟩⟩
  ·replace c5 := Bool.eq_false_iff.mpr c5
   subst c5
   have H1 : (impl_AreVessels.j0 k true l0_0 l0_1) = some r := by rw [if_neg (show ¬ (false = true) by decide)] at H; exact H
   clear H
   have H := H1
   clear H1
   have H' := Aside0.mk H
   clear H
   have hcz11_0 : w3.cell? ⟨gb234, 0, none⟩ = some (.slice A0_0 l0_0.length c0_0) := (blk_cell BK234.out 0).trans rfl
   have hcz11_1 : w3.cell? ⟨gb234, 1, none⟩ = some (.slice A0_1 l0_1.length c0_1) := (blk_cell BK234.out 1).trans rfl
   have hfz11_0 := blk_frozen BK234.out 0
   have hfz11_1 := blk_frozen BK234.out 1
   go_wp2_with (first | ((with_reducible refine gate_callee (f := 72) rfl ?_); refine goesL_ (some 8) rfl rfl Try.func72 (by kernel_rfl) rfl #[.int .i64 (l0_0.length : Int), .int .i64 1, .int .i64 5] rfl (by (try simp only [List.map_toArray, List.map_cons, List.map_nil]); first | done | rfl | (simp only [List.length_drop, List.length_take]; rfl)) ?_; (with_reducible refine (impl_within.calls (l0_0.length : Int) 1 5 false _ A4.out).mono ?_); rintro e w' ⟨rfl, ⟨nd, rfl⟩⟩; refine ⟨_, rfl, ?_⟩))
   go_meet
   case rel => exact ⟨_, (true), (by first | rfl | (simp; done) | (simp [*]; done)), H', ⟨by first | omega | exact Nat.le_refl _⟩, ⟨xb BK234.out⟩, ⟨xs HB.out⟩⟩
 case rest =>
  clear HC2
  try clear p2
  try clear c5
  try clear c6
  try clear c6b0
  try clear c6b1
  try clear c6b2
  try clear c7
  try clear hcz10_0
  try clear hcz10_1
  try clear hcz11_0
  try clear hcz11_1
  try clear hcz8_0
  try clear hcz8_1
  try clear hfz10_0
  try clear hfz10_1
  try clear hfz11_0
  try clear hfz11_1
  try clear hfz8_0
  try clear hfz8_1
  obtain ⟨kq, x24_1, rfl, HA, HJ1, BK234, HB⟩ := hcut
  cases kq with
  | zero => exact absurd HA.out (by simp [impl_AreVessels.j0])
  | succ kj1 =>
   have H := HA.out
   clear HA
   simp only [impl_AreVessels.j0] at H
   by_cases c12 : x24_1 = true
   ·subst c12
    have H1 : (some false) = some r := by rw [if_pos rfl] at H; exact H
    clear H
    have H := H1
    clear H1
    obtain rfl := Option.some.inj H
    go_wp2
    go_ret
    exact ⟨by first | rfl | (simp [errW_none, errW_some] <;> rfl) | (simp [*, errW_none, errW_some] <;> rfl), by repeat (first | (with_reducible first | exact HB.out | apply below_alloc | apply pw_below_drewN | apply below_drew1 | refine below_set ?_ GE234.out) | exact HB.out)⟩
   ·replace c12 := Bool.eq_false_iff.mpr c12
    subst c12
    have H1 : (impl_AreVessels.l0 kj1 l0_1 (l0_1.length : Int) 0 l0_0 l0_1) = some r := by rw [if_neg (show ¬ (false = true) by decide)] at H; exact H
    clear H
    have H := H1
    clear H1
    have H' := Aside0.mk H
    clear H
    have hcz13_0 : wc.cell? ⟨gb234, 0, none⟩ = some (.slice A0_0 l0_0.length c0_0) := (blk_cell BK234.out 0).trans rfl
    have hcz13_1 : wc.cell? ⟨gb234, 1, none⟩ = some (.slice A0_1 l0_1.length c0_1) := (blk_cell BK234.out 1).trans rfl
    have hfz13_0 := blk_frozen BK234.out 0
    have hfz13_1 := blk_frozen BK234.out 1
    go_wp2
    go_loopg [28] kj1 (fun kq v28 w' => ∃ (x28_2 : Int), v28 = .int .i64 x28_2 ∧ Aside0 (impl_AreVessels.l0 kq l0_1 (l0_1.length : Int) x28_2 l0_0 l0_1 = some r) ∧ Aside0 (kq ≤ kj1) ∧ Aside0 (w'.heap[gb234]? = some (.cells #[(.slice A0_0 l0_0.length c0_0), (.slice A0_1 l0_1.length c0_1)] 26 (0, 0))) ∧ Aside0 (Below w.heap.size w w'))
    case atStart => exact ⟨(0), (by first | rfl | (simp; done) | (simp [*]; done)), H', ⟨Nat.le_refl _⟩, ⟨xb BK234.out⟩, ⟨xs HB.out⟩⟩
    case round =>
     clear H'
     try clear c1
     try clear p2
     try clear c5
     try clear c6
     try clear c6b0
     try clear c6b1
     try clear c6b2
     try clear c7
     try clear c12
     try clear hcz10_0
     try clear hcz10_1
     try clear hcz11_0
     try clear hcz11_1
     try clear hcz13_0
     try clear hcz13_1
     try clear hcz8_0
     try clear hcz8_1
     try clear hfz10_0
     try clear hfz10_1
     try clear hfz11_0
     try clear hfz11_1
     try clear hfz13_0
     try clear hfz13_1
     try clear hfz8_0
     try clear hfz8_1
     try clear p2
     obtain ⟨x28_2, rfl, HA, HK2, BK234, HB⟩ := hrel
     cases gk with
     | zero => exact absurd HA.out (by simp [impl_AreVessels.l0])
     | succ k2 =>
      have H := HA.out
      clear HA
      simp only [impl_AreVessels.l0] at H
      by_cases c14 : x28_2 < (l0_1.length : Int)
      ·rw [if_pos c14] at H
       have c14b0 : decide (x28_2 < (l0_1.length : Int)) = true := decide_eq_true c14
       clear c14
       by_cases c15 : 0 ≤ x28_2
       ·rw [if_pos c15] at H
        have c15b0 : decide (0 ≤ x28_2) = true := decide_eq_true c15
        clear c15
        by_cases c16 : x28_2 < (l0_1.length : Int)
        ·rw [if_pos c16] at H
         have c16b0 : decide (x28_2 < (l0_1.length : Int)) = true := decide_eq_true c16
         clear c16
         by_cases c17 : x28_2 < (l0_0.length : Int)
         ·rw [if_pos c17] at H
          have c17b0 : decide (x28_2 < (l0_0.length : Int)) = true := decide_eq_true c17
          clear c17
          replace H := Option.bind_eq_some_iff.mp H
          obtain ⟨t239, A180, H⟩ := H
          replace H : (if t239 = true then (impl_AreVessels.l0 k2 l0_1 (l0_1.length : Int) (wrap64 (x28_2 + 1)) l0_0 l0_1) else (some false)) = some r := H
          have A18 := Aside0.mk A180
          clear A180
          by_cases c19 : t239 = true
          ·subst c19
           have H1 : (impl_AreVessels.l0 k2 l0_1 (l0_1.length : Int) (wrap64 (x28_2 + 1)) l0_0 l0_1) = some r := by rw [if_pos rfl] at H; exact H
           clear H
           have H := H1
           clear H1
           have H' := Aside0.mk H
           clear H
           have p237 : 0 ≤ (x28_2 : Int) := of_decide_eq_true (by first | (with_reducible assumption) | assumption)
           have q237 : x28_2 < (l0_1.length : Int) := of_decide_eq_true (by first | (with_reducible assumption) | assumption)
           obtain ⟨ad237, e237, hx237_0⟩ := Kd.at_int HR0_1.out x28_2 p237 q237
           cases e237
           replace hx237_0 := (HB.out.cell (World.block_lt_of_cell? w _ hx237_0)).trans hx237_0
           replace p237 := eq_true p237
           replace q237 := eq_true q237
           have hcz20_0 : wr.cell? ⟨gb234, 0, none⟩ = some (.slice A0_0 l0_0.length c0_0) := (blk_cell BK234.out 0).trans rfl
           have hcz20_1 : wr.cell? ⟨gb234, 1, none⟩ = some (.slice (some ad237) l0_1.length c0_1) := (blk_cell BK234.out 1).trans rfl
           have hfz20_0 := blk_frozen BK234.out 0
           have hfz20_1 := blk_frozen BK234.out 1
           have p238 : 0 ≤ (x28_2 : Int) := of_decide_eq_true (by first | (with_reducible assumption) | assumption)
           have q238 : x28_2 < (l0_0.length : Int) := of_decide_eq_true (by first | (with_reducible assumption) | assumption)
           obtain ⟨ad238, e238, hx238_0⟩ := Kd.at_int HR0_0.out x28_2 p238 q238
           cases e238
           replace hx238_0 := (HB.out.cell (World.block_lt_of_cell? w _ hx238_0)).trans hx238_0
           replace p238 := eq_true p238
           replace q238 := eq_true q238
           go_wp2_with (first | ((with_reducible refine gate_callee (f := 72) rfl ?_); refine goesL_ (some 39) rfl rfl Try.func72 (by kernel_rfl) rfl #[.int .i64 (rd l0_1 x28_2), .int .i64 0, .int .i64 (rd l0_0 x28_2)] rfl (by (try simp only [List.map_toArray, List.map_cons, List.map_nil]); first | done | rfl | (simp only [List.length_drop, List.length_take]; rfl)) ?_; (with_reducible refine (impl_within.calls (rd l0_1 x28_2) 0 (rd l0_0 x28_2) true _ A18.out).mono ?_); rintro e w' ⟨rfl, ⟨nd, rfl⟩⟩; refine ⟨_, rfl, ?_⟩))
           go_roundg k2
           case measure => have := HJ1.out; have := HK2.out; omega
           case rel => exact ⟨(wrap64 (x28_2 + 1)), (by first | rfl | (simp; done) | (simp [*]; done)), H', ⟨by have := HJ1.out; have := HK2.out; omega⟩, ⟨xb BK234.out⟩, ⟨xs HB.out⟩⟩
          ·replace c19 := Bool.eq_false_iff.mpr c19
           subst c19
           have H1 : (some false) = some r := by rw [if_neg (show ¬ (false = true) by decide)] at H; exact H
           clear H
           have H := H1
           clear H1
           obtain rfl := Option.some.inj H
           have p237 : 0 ≤ (x28_2 : Int) := of_decide_eq_true (by first | (with_reducible assumption) | assumption)
           have q237 : x28_2 < (l0_1.length : Int) := of_decide_eq_true (by first | (with_reducible assumption) | assumption)
           obtain ⟨ad237, e237, hx237_0⟩ := Kd.at_int HR0_1.out x28_2 p237 q237
           cases e237
           replace hx237_0 := (HB.out.cell (World.block_lt_of_cell? w _ hx237_0)).trans hx237_0
           replace p237 := eq_true p237
           replace q237 := eq_true q237
           have hcz21_0 : wr.cell? ⟨gb234, 0, none⟩ = some (.slice A0_0 l0_0.length c0_0) := (blk_cell BK234.out 0).trans rfl
           have hcz21_1 : wr.cell? ⟨gb234, 1, none⟩ = some (.slice (some ad237) l0_1.length c0_1) := (blk_cell BK234.out 1).trans rfl
           have hfz21_0 := blk_frozen BK234.out 0
           have hfz21_1 := blk_frozen BK234.out 1
           have p238 : 0 ≤ (x28_2 : Int) := of_decide_eq_true (by first | (with_reducible assumption) | assumption)
           have q238 : x28_2 < (l0_0.length : Int) := of_decide_eq_true (by first | (with_reducible assumption) | assumption)
           obtain ⟨ad238, e238, hx238_0⟩ := Kd.at_int HR0_0.out x28_2 p238 q238
           cases e238
           replace hx238_0 := (HB.out.cell (World.block_lt_of_cell? w _ hx238_0)).trans hx238_0
           replace p238 := eq_true p238
           replace q238 := eq_true q238
           go_wp2_with (first | ((with_reducible refine gate_callee (f := 72) rfl ?_); refine goesL_ (some 39) rfl rfl Try.func72 (by kernel_rfl) rfl #[.int .i64 (rd l0_1 x28_2), .int .i64 0, .int .i64 (rd l0_0 x28_2)] rfl (by (try simp only [List.map_toArray, List.map_cons, List.map_nil]); first | done | rfl | (simp only [List.length_drop, List.length_take]; rfl)) ?_; (with_reducible refine (impl_within.calls (rd l0_1 x28_2) 0 (rd l0_0 x28_2) false _ A18.out).mono ?_); rintro e w' ⟨rfl, ⟨nd, rfl⟩⟩; refine ⟨_, rfl, ?_⟩))
           go_ret
           exact ⟨by first | rfl | (simp [errW_none, errW_some] <;> rfl) | (simp [*, errW_none, errW_some] <;> rfl), by repeat (first | (with_reducible first | exact HB.out | apply below_alloc | apply pw_below_drewN | apply below_drew1 | refine below_set ?_ GE234.out) | exact HB.out)⟩
         ·rw [if_neg c17] at H
          exact absurd H (by simp)
        ·rw [if_neg c16] at H
         exact absurd H (by simp)
       ·rw [if_neg c15] at H
        exact absurd H (by simp)
      ·rw [if_neg c14] at H
       have c14b0 : decide (x28_2 < (l0_1.length : Int)) = false := decide_eq_false c14
       clear c14
       obtain rfl := Option.some.inj H
       go_wp2
       go_ret
       exact ⟨by first | rfl | (simp [errW_none, errW_some] <;> rfl) | (simp [*, errW_none, errW_some] <;> rfl), by repeat (first | (with_reducible first | exact HB.out | apply below_alloc | apply pw_below_drewN | apply below_drew1 | refine below_set ?_ GE234.out) | exact HB.out)⟩

/-! ### impl_Move_isMove: function 102 -/
def impl_Move_isMove.f (a0_0 : Int) (a0_1 : Int) (a1 : Int) : Option (Bool) := (impl_within.f a0_0 (-1) (wrap64 (a1 - 1))).bind fun t241 => (if t241 = true then ((impl_within.f a0_1 (-1) (wrap64 (a1 - 1))).bind fun t242 => (if t242 = true then (some (a0_0 != a0_1)) else (some false))) else (some false))
set_option maxHeartbeats 8000000 in
set_option maxRecDepth 100000 in
theorem impl_Move_isMove.calls (a0_0 : Int) (a0_1 : Int) (a1 : Int) (r : Bool) (w : World) (h : impl_Move_isMove.f a0_0 a0_1 a1 = some r) :
  Calls Try.prog 102 #[.agg #[.int .i64 a0_0, .int .i64 a0_1], .int .i64 a1] w fun e w' => e = .returned (.bool r) ∧ Below w.heap.size w w' := by
 have hu41 := Try.underlying41
 have HB := Aside0.mk (Below.refl w.heap.size w)
 have H : ((impl_within.f a0_0 (-1) (wrap64 (a1 - 1))).bind fun t241 => (if t241 = true then ((impl_within.f a0_1 (-1) (wrap64 (a1 - 1))).bind fun t242 => (if t242 = true then (some (a0_0 != a0_1)) else (some false))) else (some false))) = some r := h
 clear h
 replace H := Option.bind_eq_some_iff.mp H
 obtain ⟨t241, A30, H⟩ := H
 replace H : (if t241 = true then ((impl_within.f a0_1 (-1) (wrap64 (a1 - 1))).bind fun t242 => (if t242 = true then (some (a0_0 != a0_1)) else (some false))) else (some false)) = some r := H
 have A3 := Aside0.mk A30
 clear A30
 by_cases c4 : t241 = true
 ·subst c4
  have H1 : ((impl_within.f a0_1 (-1) (wrap64 (a1 - 1))).bind fun t242 => (if t242 = true then (some (a0_0 != a0_1)) else (some false))) = some r := by rw [if_pos rfl] at H; exact H
  clear H
  have H := H1
  clear H1
  replace H := Option.bind_eq_some_iff.mp H
  obtain ⟨t242, A50, H⟩ := H
  replace H : (if t242 = true then (some (a0_0 != a0_1)) else (some false)) = some r := H
  have A5 := Aside0.mk A50
  clear A50
  by_cases c6 : t242 = true
  ·subst c6
   have H1 : (some (a0_0 != a0_1)) = some r := by rw [if_pos rfl] at H; exact H
   clear H
   have H := H1
   clear H1
   obtain rfl := Option.some.inj H
   go_enter Try.func102, Try.ntmps102
   go_wp2_with (first | ((with_reducible refine gate_dst (N := 2) rfl ?_); refine box_event ?hg (N := 2) ?hd (cs := #[.int .i64 a0_0, .int .i64 a0_1]) (t := 41) ?hr ?_; (case hd => rfl); (case hg => rfl); (case hr => first | (go_simp; done) | (go_simp; rfl)); intro gb240 hg w7 hbox hb; have BK240 := Aside0.mk (hbox); have GW240 := xg HB hg; have GE240 := xg HB hg; replace HB := xp HB hb; clear hb hbox hg; have hcz8_0 : w7.cell? ⟨gb240, 0, none⟩ = some (.int .i64 a0_0) := (blk_cell BK240.out 0).trans rfl; have hcz8_1 : w7.cell? ⟨gb240, 1, none⟩ = some (.int .i64 a0_1) := (blk_cell BK240.out 1).trans rfl; have hfz8_0 := blk_frozen BK240.out 0; have hfz8_1 := blk_frozen BK240.out 1) | ((with_reducible refine gate_callee (f := 72) rfl ?_); refine goesL_ (some 9) rfl rfl Try.func72 (by kernel_rfl) rfl #[.int .i64 a0_0, .int .i64 (-1), .int .i64 (wrap64 (a1 - 1))] rfl (by (try simp only [List.map_toArray, List.map_cons, List.map_nil]); first | done | rfl | (simp only [List.length_drop, List.length_take]; rfl)) ?_; (with_reducible refine (impl_within.calls a0_0 (-1) (wrap64 (a1 - 1)) true _ A3.out).mono ?_); rintro e w' ⟨rfl, ⟨nd, rfl⟩⟩; refine ⟨_, rfl, ?_⟩) | (go_at_call 72; (try simp only [i64_w, i32_w]); (with_reducible refine (impl_within.calls a0_1 (-1) (wrap64 (a1 - 1)) true _ A5.out).mono ?_); rintro e w' ⟨rfl, ⟨nd, rfl⟩⟩))
   go_ret
   exact ⟨by first | rfl | (simp [errW_none, errW_some] <;> rfl) | (simp [*, errW_none, errW_some] <;> rfl), by repeat (first | (with_reducible first | exact HB.out | apply below_alloc | apply pw_below_drewN | apply below_drew1 | refine below_set ?_ GE240.out) | exact HB.out)⟩
  ·replace c6 := Bool.eq_false_iff.mpr c6
   subst c6
   have H1 : (some false) = some r := by rw [if_neg (show ¬ (false = true) by decide)] at H; exact H
   clear H
   have H := H1
   clear H1
   obtain rfl := Option.some.inj H
   go_enter Try.func102, Try.ntmps102
   go_wp2_with (first | ((with_reducible refine gate_dst (N := 2) rfl ?_); refine box_event ?hg (N := 2) ?hd (cs := #[.int .i64 a0_0, .int .i64 a0_1]) (t := 41) ?hr ?_; (case hd => rfl); (case hg => rfl); (case hr => first | (go_simp; done) | (go_simp; rfl)); intro gb240 hg w9 hbox hb; have BK240 := Aside0.mk (hbox); have GW240 := xg HB hg; have GE240 := xg HB hg; replace HB := xp HB hb; clear hb hbox hg; have hcz10_0 : w9.cell? ⟨gb240, 0, none⟩ = some (.int .i64 a0_0) := (blk_cell BK240.out 0).trans rfl; have hcz10_1 : w9.cell? ⟨gb240, 1, none⟩ = some (.int .i64 a0_1) := (blk_cell BK240.out 1).trans rfl; have hfz10_0 := blk_frozen BK240.out 0; have hfz10_1 := blk_frozen BK240.out 1) | ((with_reducible refine gate_callee (f := 72) rfl ?_); refine goesL_ (some 9) rfl rfl Try.func72 (by kernel_rfl) rfl #[.int .i64 a0_0, .int .i64 (-1), .int .i64 (wrap64 (a1 - 1))] rfl (by (try simp only [List.map_toArray, List.map_cons, List.map_nil]); first | done | rfl | (simp only [List.length_drop, List.length_take]; rfl)) ?_; (with_reducible refine (impl_within.calls a0_0 (-1) (wrap64 (a1 - 1)) true _ A3.out).mono ?_); rintro e w' ⟨rfl, ⟨nd, rfl⟩⟩; refine ⟨_, rfl, ?_⟩) | (go_at_call 72; (try simp only [i64_w, i32_w]); (with_reducible refine (impl_within.calls a0_1 (-1) (wrap64 (a1 - 1)) false _ A5.out).mono ?_); rintro e w' ⟨rfl, ⟨nd, rfl⟩⟩))
   go_ret
   exact ⟨by first | rfl | (simp [errW_none, errW_some] <;> rfl) | (simp [*, errW_none, errW_some] <;> rfl), by repeat (first | (with_reducible first | exact HB.out | apply below_alloc | apply pw_below_drewN | apply below_drew1 | refine below_set ?_ GE240.out) | exact HB.out)⟩
 ·replace c4 := Bool.eq_false_iff.mpr c4
  subst c4
  have H1 : (some false) = some r := by rw [if_neg (show ¬ (false = true) by decide)] at H; exact H
  clear H
  have H := H1
  clear H1
  obtain rfl := Option.some.inj H
  go_enter Try.func102, Try.ntmps102
  go_wp2_with (first | ((with_reducible refine gate_dst (N := 2) rfl ?_); refine box_event ?hg (N := 2) ?hd (cs := #[.int .i64 a0_0, .int .i64 a0_1]) (t := 41) ?hr ?_; (case hd => rfl); (case hg => rfl); (case hr => first | (go_simp; done) | (go_simp; rfl)); intro gb240 hg w11 hbox hb; have BK240 := Aside0.mk (hbox); have GW240 := xg HB hg; have GE240 := xg HB hg; replace HB := xp HB hb; clear hb hbox hg; have hcz12_0 : w11.cell? ⟨gb240, 0, none⟩ = some (.int .i64 a0_0) := (blk_cell BK240.out 0).trans rfl; have hcz12_1 : w11.cell? ⟨gb240, 1, none⟩ = some (.int .i64 a0_1) := (blk_cell BK240.out 1).trans rfl; have hfz12_0 := blk_frozen BK240.out 0; have hfz12_1 := blk_frozen BK240.out 1) | ((with_reducible refine gate_callee (f := 72) rfl ?_); refine goesL_ (some 9) rfl rfl Try.func72 (by kernel_rfl) rfl #[.int .i64 a0_0, .int .i64 (-1), .int .i64 (wrap64 (a1 - 1))] rfl (by (try simp only [List.map_toArray, List.map_cons, List.map_nil]); first | done | rfl | (simp only [List.length_drop, List.length_take]; rfl)) ?_; (with_reducible refine (impl_within.calls a0_0 (-1) (wrap64 (a1 - 1)) false _ A3.out).mono ?_); rintro e w' ⟨rfl, ⟨nd, rfl⟩⟩; refine ⟨_, rfl, ?_⟩))
  go_ret
  exact ⟨by first | rfl | (simp [errW_none, errW_some] <;> rfl) | (simp [*, errW_none, errW_some] <;> rfl), by repeat (first | (with_reducible first | exact HB.out | apply below_alloc | apply pw_below_drewN | apply below_drew1 | refine below_set ?_ GE240.out) | exact HB.out)⟩

-- NOT PRINTED: function 117 (impl_Move_117)

-- NOT PRINTED: function 104 (impl_Move_104)

/-! ### impl_areMoves: function 82 -/
theorem indexT41.calls (p : S41 → Bool) (g : Nat) (lb : Array Value) (eg : ∀ args w, (callFunc g args).run Try.prog w = .ok (.enter g args) w) (A0 : Option Addr) (c0 : Nat) (l0 : List S41) (w : World)
  (hp : 0 < l0.length → ∀ (W : World) (x : S41), Below w.heap.size w W → Calls Try.prog g (#[.agg #[.int .i64 x.f0, .int .i64 x.f1]] ++ lb) W fun e w' => e = .returned (.bool (p x)) ∧ Below w.heap.size w w')
  (hr0 : Kd.C k41 w A0 l0.length l0) :
  Calls Try.prog 117 #[.slice A0 l0.length c0, .func (.func g) #[] lb] w fun e w' => ∃ r : Int, e = .returned (.int .i64 r) ∧ decide (r ≥ 0) = l0.any p ∧ Below w.heap.size w w' := by
 have hu41 := Try.underlying41
 have HR0 := Aside0.mk hr0
 clear hr0
 have HN := Aside0.mk (HR0.out.2.1)
 go_enter Try.func117, Try.ntmps117
 go_wp2
 go_loopg [5, 8] l0.length (fun gg _ s8 wr => ∃ x8 : Int, s8 = .int .i64 x8 ∧ Aside0 (0 ≤ x8 ∧ x8 ≤ l0.length) ∧ Aside0 (l0.length - x8.toNat ≤ gg) ∧ Aside0 (Below w.heap.size w wr) ∧ Aside0 (∀ j : Nat, j < x8.toNat → p (rd_T41 l0 j) = false))
 case atStart => exact ⟨0, rfl, ⟨by omega⟩, ⟨by simp⟩, ⟨Below.refl _ w⟩, ⟨fun j hj => absurd hj (by simp)⟩⟩
 case round =>
  obtain ⟨x8, rfl, HX, HG, HB, HA⟩ := hrel
  by_cases hlt : x8 < (l0.length : Int)
  ·have c1 : decide (x8 < (l0.length : Int)) = true := decide_eq_true hlt
   have c2 : decide (0 ≤ x8) = true := decide_eq_true HX.out.1
   obtain ⟨ad, e1, hx0, hx1⟩ := at_T41 (Kd.C_below HR0.out HB.out) x8 HX.out.1 hlt
   cases e1
   have q1 := eq_true HX.out.1
   have q2 := eq_true hlt
   have HL := Aside0.mk hlt
   clear hlt
   have hcall := Aside0.mk (hp (by have h1_ := HX.out.1; have h2_ := HL.out; omega) wr (rd_T41 l0 x8) HB.out)
   have HP := Aside0.mk hp
   clear hp
   cases hq : p (rd_T41 l0 x8) with
   | true =>
    have HQ := Aside0.mk hq
    clear hq
    go_wp2_with (go_at_fn g; refine hcall.out.mono ?_; rintro e w' ⟨rfl, hb'⟩; have HB' := Aside0.mk hb'; clear hb'; simp only [HQ.out])
    go_ret
    refine ⟨x8, rfl, ?_, HB'.out⟩
    rw [decide_eq_true HX.out.1]
    refine (List.any_eq_true.mpr ⟨rd_T41 l0 x8, ?_, HQ.out⟩).symm
    have hn : x8.toNat < l0.length := by have := HX.out.1; have := HL.out; omega
    unfold rd_T41
    rw [List.getD_eq_getElem?_getD, List.getElem?_eq_getElem hn]
    exact List.getElem_mem hn
   | false =>
    have HQ := Aside0.mk hq
    clear hq
    go_wp2_with (go_at_fn g; refine hcall.out.mono ?_; rintro e w' ⟨rfl, hb'⟩; have HB' := Aside0.mk hb'; clear hb'; simp only [HQ.out])
    go_roundg (l0.length - (x8.toNat + 1))
    case measure => have := HG.out; have := HX.out.1; have := HL.out; omega
    case rel =>
     have hw : wrap64 (x8 + 1) = x8 + 1 := by have := HX.out.1; have := HL.out; have := HN.out; unfold wrap64; omega
     refine ⟨x8 + 1, by rw [hw], ⟨by have := HX.out.1; have := HL.out; omega⟩, ⟨by have := HX.out.1; omega⟩, ⟨HB'.out⟩, ⟨fun j hj => ?_⟩⟩
     by_cases e : j < x8.toNat
     ·exact HA.out j e
     ·have : (j : Int) = x8 := by have := HX.out.1; omega
      rw [this]
      exact HQ.out
  ·have c1 : decide (x8 < (l0.length : Int)) = false := decide_eq_false hlt
   have HL := Aside0.mk hlt
   clear hlt
   go_wp2
   go_ret
   refine ⟨-1, rfl, ?_, HB.out⟩
   rw [decide_eq_false (by decide)]
   refine (List.any_eq_false.mpr fun x hx => ?_).symm
   obtain ⟨j, hj, rfl⟩ := List.mem_iff_getElem.1 hx
   have := HA.out j (by have := HX.out; have := HL.out; omega)
   unfold rd_T41 at this
   rw [List.getD_eq_getElem?_getD, Int.toNat_natCast, List.getElem?_eq_getElem hj] at this
   simpa using this
theorem containsT41.calls (p : S41 → Bool) (g : Nat) (lb : Array Value) (eg : ∀ args w, (callFunc g args).run Try.prog w = .ok (.enter g args) w) (A0 : Option Addr) (c0 : Nat) (l0 : List S41) (w : World)
  (hp : 0 < l0.length → ∀ (W : World) (x : S41), Below w.heap.size w W → Calls Try.prog g (#[.agg #[.int .i64 x.f0, .int .i64 x.f1]] ++ lb) W fun e w' => e = .returned (.bool (p x)) ∧ Below w.heap.size w w')
  (hr0 : Kd.C k41 w A0 l0.length l0) :
  Calls Try.prog 104 #[.slice A0 l0.length c0, .func (.func g) #[] lb] w fun e w' => e = .returned (.bool (l0.any p)) ∧ Below w.heap.size w w' := by
 have hc := Aside0.mk (indexT41.calls p g lb eg A0 c0 l0 w hp hr0)
 clear hp hr0
 go_enter Try.func104, Try.ntmps104
 go_wp2_with (go_at_call 117; refine hc.out.mono ?_; rintro e w' ⟨r, rfl, hr, hb⟩; have HB := Aside0.mk hb; have HR := Aside0.mk hr; clear hb hr)
 go_ret
 refine ⟨?_, HB.out⟩
 rw [← HR.out]
 first | rfl | simp
/-- a move of n vessels -/
def moveOk (n : Nat) (x : S41) : Bool := decide (-1 ≤ x.f0 ∧ x.f0 ≤ wrap64 ((n : Int) - 1)) && (decide (-1 ≤ x.f1 ∧ x.f1 ≤ wrap64 ((n : Int) - 1)) && (x.f0 != x.f1))
theorem isMove_some (n : Nat) (x : S41) : impl_Move_isMove.f x.f0 x.f1 (n : Int) = some (moveOk n x) := by
 unfold impl_Move_isMove.f impl_within.f moveOk
 by_cases h1 : -1 ≤ x.f0 <;> by_cases h2 : x.f0 ≤ wrap64 ((n : Int) - 1) <;> by_cases h3 : -1 ≤ x.f1 <;> by_cases h4 : x.f1 ≤ wrap64 ((n : Int) - 1) <;> simp [h1, h2, h3, h4]
def impl_areMoves.f (k : Nat) (l0_0 : List Int) (l0_1 : List Int) (l1 : List S41) : Option Bool := (impl_AreVessels.f k l0_0 l0_1).bind fun t => if t = true then some (decide ((l1.length : Int) ≤ 100) && !(l1.any fun x => !moveOk l0_0.length x)) else some false
theorem impl_areMoves.mono : ∀ a0 a1 a2 k, LeO (impl_areMoves.f k a0 a1 a2) (impl_areMoves.f (k + 1) a0 a1 a2) := by
 intro a0 a1 a2 k
 unfold impl_areMoves.f
 exact LeO.bind (impl_AreVessels.mono _ _ _) (fun _ => LeO.refl _)
set_option maxHeartbeats 2000000 in
set_option maxRecDepth 100000 in
theorem impl_areMoves.closure (A0_0 : Option Addr) (c0_0 : Nat) (l0_0 : List Int) (A0_1 : Option Addr) (c0_1 : Nat) (l0_1 : List Int) (B : Nat) (w W : World) (x : S41) (hbox : w.heap[B]? = some (.cells #[.slice A0_0 l0_0.length c0_0, .slice A0_1 l0_1.length c0_1] 26)) (hb : Below w.heap.size w W) :
  Calls Try.prog 105 (#[.agg #[.int .i64 x.f0, .int .i64 x.f1]] ++ #[.pointer (some ⟨B, 0, none⟩)]) W fun e w' => e = .returned (.bool (!moveOk l0_0.length x)) ∧ Below w.heap.size w w' := by
 have hu41 := Try.underlying41
 have gB : W.cell? ⟨B, 0, none⟩ = some (.slice A0_0 l0_0.length c0_0) := (blk_cell (blk_below hbox hb) 0).trans rfl
 have gB2 := fun o => pw_cell_below (below_alloc (Below.refl W.heap.size W) o) gB
 have HB := Aside0.mk hb
 have hw := Aside0.mk (fun W' => impl_Move_isMove.calls x.f0 x.f1 (l0_0.length : Int) (moveOk l0_0.length x) W' (isMove_some _ _))
 clear hb hbox
 show Calls Try.prog 105 #[.agg #[.int .i64 x.f0, .int .i64 x.f1], .pointer (some ⟨B, 0, none⟩)] W _
 go_enter Try.func105, Try.ntmps105
 go_wp2_with (go_at_call 102; (with_reducible refine (hw.out _).mono ?_); rintro e w' ⟨rfl, hd⟩; have HD := Aside0.mk hd; clear hd)
 go_ret
 refine ⟨by first | rfl | simp, ?_⟩
 exact below_then (HB.out.alloc HB.out.size _) (Nat.le_trans HB.out.size (by simp)) HD.out
theorem am_new (w : World) (o : Obj) : (w.alloc o).heap[w.heap.size]? = some o := by unfold World.alloc; exact Array.getElem?_push_size
set_option maxHeartbeats 4000000 in
set_option maxRecDepth 100000 in
theorem impl_areMoves.calls (k : Nat) (A0_0 : Option Addr) (c0_0 : Nat) (l0_0 : List Int) (A0_1 : Option Addr) (c0_1 : Nat) (l0_1 : List Int) (A1 : Option Addr) (c1 : Nat) (l1 : List S41) (r : Bool) (w : World) (hr0_0 : Kd.C (Kd.int .i64) w A0_0 l0_0.length l0_0) (hc0_0 : l0_0.length ≤ c0_0) (hr0_1 : Kd.C (Kd.int .i64) w A0_1 l0_1.length l0_1) (hc0_1 : l0_1.length ≤ c0_1) (hr1 : Kd.C k41 w A1 l1.length l1) (hc1 : l1.length ≤ c1) (h : impl_areMoves.f k l0_0 l0_1 l1 = some r) :
  Calls Try.prog 82 #[.agg #[.slice A0_0 l0_0.length c0_0, .slice A0_1 l0_1.length c0_1], .slice A1 l1.length c1] w fun e w' => e = .returned (.bool r) ∧ Below w.heap.size w w' := by
 have hu26 := Try.underlying26
 obtain ⟨t, hT, h⟩ := Option.bind_eq_some_iff.mp h
 have HA := Aside0.mk (below_alloc (Below.refl w.heap.size w) (.cells #[.slice A0_0 l0_0.length c0_0, .slice A0_1 l0_1.length c0_1] 26))
 have BK := Aside0.mk (am_new w (.cells #[.slice A0_0 l0_0.length c0_0, .slice A0_1 l0_1.length c0_1] 26))
 have hT1 := Aside0.mk (fun (W : World) (hb : Below w.heap.size w W) => impl_AreVessels.calls k A0_0 c0_0 l0_0 A0_1 c0_1 l0_1 t W (Kd.C_below hr0_0 hb) hc0_0 (Kd.C_below hr0_1 hb) hc0_1 hT)
 have hC := Aside0.mk (fun (W : World) (hb : Below w.heap.size w W) (hk : W.heap[w.heap.size]? = some (.cells #[.slice A0_0 l0_0.length c0_0, .slice A0_1 l0_1.length c0_1] 26)) => containsT41.calls (fun x => !moveOk l0_0.length x) 105 #[.pointer (some ⟨w.heap.size, 0, none⟩)] (enters_of Try.func105 (by kernel_rfl) rfl) A1 c1 l1 W (fun _ W' x hb' => impl_areMoves.closure A0_0 c0_0 l0_0 A0_1 c0_1 l0_1 w.heap.size W W' x hk hb') (Kd.C_below hr1 hb))
 clear hr0_0 hr0_1 hr1
 cases t with
 | false =>
  rw [if_neg (by decide)] at h
  obtain rfl := Option.some.inj h
  clear h
  go_enter Try.func82, Try.ntmps82
  go_wp2_with (go_at_call 71; refine (hT1.out _ HA.out).mono ?_; rintro e w1 ⟨rfl, hb⟩; have HB := Aside0.mk (below_then HA.out HA.out.size hb); clear hb)
  go_ret
  exact ⟨by first | rfl | simp, HB.out⟩
 | true =>
  rw [if_pos rfl] at h
  obtain rfl := Option.some.inj h
  clear h
  by_cases c3 : (l1.length : Int) ≤ 100
  ·have c4 : decide ((l1.length : Int) ≤ 100) = true := decide_eq_true c3
   have c5 : decide (l1.length ≤ 100) = true := decide_eq_true (by omega)
   rw [c4]
   clear c3
   go_enter Try.func82, Try.ntmps82
   go_wp2_with (first | (go_at_call 71; refine (hT1.out _ HA.out).mono ?_; rintro e w1 ⟨rfl, hb⟩; have BK1 := Aside0.mk (blk_below BK.out hb); have HB := Aside0.mk (below_then HA.out HA.out.size hb); clear hb) | (go_at_call 104; refine (hC.out _ HB.out BK1.out).mono ?_; rintro e w2 ⟨rfl, hb⟩; have HB2 := Aside0.mk (below_then HB.out HB.out.size hb); clear hb))
   go_ret
   exact ⟨by first | rfl | simp, HB2.out⟩
  ·have c4 : decide ((l1.length : Int) ≤ 100) = false := decide_eq_false c3
   have c5 : decide (l1.length ≤ 100) = false := decide_eq_false (by omega)
   rw [c4]
   clear c3
   go_enter Try.func82, Try.ntmps82
   go_wp2_with (go_at_call 71; refine (hT1.out _ HA.out).mono ?_; rintro e w1 ⟨rfl, hb⟩; have HB := Aside0.mk (below_then HA.out HA.out.size hb); clear hb)
   go_ret
   exact ⟨by first | rfl | simp, HB.out⟩

end Go.Proofs.Ytobkbpoamicjgaa.PFnExactStatesAlong

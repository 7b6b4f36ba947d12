/- Lean functions of the Go functions that the law FnExactStretchChanges reaches, and the proofs that the calls come to what they say (made by program). -/
import Derived.Test.YtmedapafllmhjaaDoorAb
import Derived.Shelf.Strings.SlTrimAscii
import Derived.Ground.NamesProg
import Derived.Test.YtmedapafllmhjaaDoorPFnExactStretchChangesx0
import Derived.Test.YtmedapafllmhjaaDoorPFnExactStretchChangesx2
import Derived.Test.YtmedapafllmhjaaDoorPFnExactStretchChangesx3
namespace Go.Proofs.YtmedapafllmhjaaDoor.PFnExactStretchChanges
open Go.RowKit Go.Proofs.YtmedapafllmhjaaDoorW.PrintWords Go.Proofs.YtmedapafllmhjaaDoorW.PrintLast Go.Proofs.YtmedapafllmhjaaDoorW.PrintMore Go.Proofs.YtmedapafllmhjaaDoor.Ab
attribute [local go_sem] max2_int min2_int max_two min_two max_three min_three max_four min_four   -- for this text's walks alone
set_option linter.unusedVariables false
set_option linter.unusedSimpArgs false

/-! ### spec_StretchChanges: function 21 -/
def spec_StretchChanges.f (k : Nat) (l0_0 : List Int) (l0_1 : List Bool) (a1 : ByteArray) : Option (List Int × Bool) := (spec_loAsked.f k l0_0 l0_1 a1).bind fun t => if t = true then (if (l0_1.length = l0_0.length ∧ 1 ≤ l0_0.length ∧ l0_0.length ≤ 1000) ∧ a1.size ≤ 40 then some ((runS l0_0.length a1.data.toList (newS l0_0 l0_1)).ch, true) else none) else some ([], false)
theorem spec_StretchChanges.mono : ∀ a0 a1 a2 k, LeO (spec_StretchChanges.f k a0 a1 a2) (spec_StretchChanges.f (k + 1) a0 a1 a2) := by
 intro a0 a1 a2 k
 unfold spec_StretchChanges.f
 exact LeO.bind (spec_loAsked.mono _ _ _ _) (fun _ => LeO.refl _)
set_option maxHeartbeats 4000000 in
set_option maxRecDepth 100000 in
theorem spec_StretchChanges.calls (k : Nat) (A0_0 : Option Addr) (c0_0 : Nat) (l0_0 : List Int) (A0_1 : Option Addr) (c0_1 : Nat) (l0_1 : List Bool) (a1 : ByteArray) (r1 : List Int) (r2 : Bool) (w : World) (hr0_0 : Kd.C (Kd.int .i64) w A0_0 l0_0.length l0_0) (hc0_0 : l0_0.length ≤ c0_0) (hr0_1 : Kd.C Kd.bool w A0_1 l0_1.length l0_1) (hc0_1 : l0_1.length ≤ c0_1) (h : spec_StretchChanges.f k l0_0 l0_1 a1 = some (r1, r2)) :
  Calls Tryd.prog 21 #[.agg #[.slice A0_0 l0_0.length c0_0, .slice A0_1 l0_1.length c0_1], .string a1] w fun e w' => ∃ v0_ : Value, e = .returned (.tuple #[v0_, .bool r2]) ∧ Kd.R (Kd.int .i64) 3 w' w.heap.size (fun _ => True) v0_ r1 ∧ Below w.heap.size w w' := by
 have hu30 := Tryd.underlying30
 obtain ⟨t, hT, h⟩ := Option.bind_eq_some_iff.mp h
 have HA := Aside0.mk (below_alloc (Below.refl w.heap.size w) (.cells #[.slice A0_0 l0_0.length c0_0, .slice A0_1 l0_1.length c0_1] 30))
 have BK1 := Aside0.mk (hw_new0 w (.cells #[.slice A0_0 l0_0.length c0_0, .slice A0_1 l0_1.length c0_1] 30))
 have hT1 := Aside0.mk (fun (W : World) (hb : Below w.heap.size w W) => spec_loAsked.calls k A0_0 c0_0 l0_0 A0_1 c0_1 l0_1 a1 t W (Kd.C_below hr0_0 hb) hc0_0 (Kd.C_below hr0_1 hb) hc0_1 hT)
 cases t with
 | false =>
  rw [if_neg (by decide)] at h
  simp only [Option.some.injEq, Prod.mk.injEq] at h
  obtain ⟨rfl, rfl⟩ := h
  clear hr0_0 hc0_0 hr0_1 hc0_1 hT
  go_enter Tryd.func21, Tryd.ntmps21
  go_wp2_with (go_at_call 30; refine (hT1.out _ HA.out).mono ?_; rintro e w1 ⟨rfl, hb'⟩; have HB := Aside0.mk (below_then HA.out HA.out.size hb'); clear hb')
  go_ret2
  exact ⟨_, rfl, Kd.R_nil _ _ _ _ _, HB.out⟩
 | true =>
  rw [if_pos rfl] at h
  by_cases hg : (l0_1.length = l0_0.length ∧ 1 ≤ l0_0.length ∧ l0_0.length ≤ 1000) ∧ a1.size ≤ 40
  ·rw [if_pos hg] at h
   simp only [Option.some.injEq, Prod.mk.injEq] at h
   obtain ⟨rfl, rfl⟩ := h
   have hP := Aside0.mk (fun (W : World) (hb : Below w.heap.size w W) => specRun.calls A0_0 c0_0 l0_0 A0_1 c0_1 l0_1 a1 W (Kd.C_below hr0_0 hb) hc0_0 (Kd.C_below hr0_1 hb) hc0_1 hg.2 hg.1)
   clear hr0_0 hc0_0 hr0_1 hc0_1 hT hg
   go_enter Tryd.func21, Tryd.ntmps21
   go_wp2_with (first | (go_at_call 30; refine (hT1.out _ HA.out).mono ?_; rintro e w1 ⟨rfl, hb'⟩; have HB := Aside0.mk (below_then HA.out HA.out.size hb'); have BL1 := Aside0.mk (blk_below BK1.out hb'); have hc1 := (blk_cell BL1.out 0).trans rfl; have hc2 := (blk_cell BL1.out 1).trans rfl; clear hb') | (go_at_call 36; refine (hP.out _ HB.out).mono ?_; rintro e w2 ⟨⟨g, A5, c5, g8, c8, g14, c14, g18, c18, n⟩, rfl, en, hp, hb'⟩; dsimp only at en hp; subst en; have HB2 := Aside0.mk (below_then HB.out HB.out.size hb'); have PP := Aside0.mk (hp.lower HB.out.size); obtain ⟨hx0, hx1, hx2, hx3⟩ := hp.cells; dsimp only at hx0 hx1 hx2 hx3; clear hb' hp))
   go_ret2
   exact ⟨_, rfl, Kd.R_mono PP.out.r14 (fun _ _ => trivial), HB2.out⟩
  ·rw [if_neg hg] at h
   exact absurd h (by simp)

-- NOT PRINTED: function 27 (strings_Trim)

/-! ### impl_IsTraffic: function 9 -/
section
open Go.Shelf Go.Lib
def Tryd.lays160_ren : Go.Shelf.Ren := ⟨fun | 160 => 27 | 232 => 41 | 231 => 40 | 227 => 42 | 234 => 44 | 233 => 43 | 236 => 46 | 235 => 45 | 228 => 54 | 271 => 57 | 151 => 56 | 197 => 55 | 120 => 68 | 152 => 67 | 260 => 66 | 137 => 74 | 119 => 75 | 224 => 76 | 225 => 77 | 217 => 79 | 266 => 80 | n => n, fun | 9 => 9 | 4 => 4 | 3 => 3 | 5 => 5 | 117 => 61 | 116 => 60 | 0 => 0 | 124 => 64 | 21 => 21 | 105 => 70 | 46 => 81 | 119 => 80 | 139 => 84 | 138 => 83 | n => n, fun | 3 => 0 | 4 => 1 | n => n⟩
theorem Tryd.lays160 : Go.Proofs.Lays.n160 Tryd.prog Tryd.lays160_ren := {
 mixed := by kernel_rfl
 f119 := Tryd.func75.trans (congrArg some (by kernel_rfl))
 f120 := Tryd.func68.trans (congrArg some (by kernel_rfl))
 f137 := Tryd.func74.trans (congrArg some (by kernel_rfl))
 f151 := Tryd.func56.trans (congrArg some (by kernel_rfl))
 f152 := Tryd.func67.trans (congrArg some (by kernel_rfl))
 f160 := Tryd.func27.trans (congrArg some (by kernel_rfl))
 f197 := Tryd.func55.trans (congrArg some (by kernel_rfl))
 f217 := Tryd.func79.trans (congrArg some (by kernel_rfl))
 f224 := Tryd.func76.trans (congrArg some (by kernel_rfl))
 f225 := Tryd.func77.trans (congrArg some (by kernel_rfl))
 f227 := Tryd.func42.trans (congrArg some (by kernel_rfl))
 f228 := Tryd.func54.trans (congrArg some (by kernel_rfl))
 f231 := Tryd.func40.trans (congrArg some (by kernel_rfl))
 f232 := Tryd.func41.trans (congrArg some (by kernel_rfl))
 f233 := Tryd.func43.trans (congrArg some (by kernel_rfl))
 f234 := Tryd.func44.trans (congrArg some (by kernel_rfl))
 f235 := Tryd.func45.trans (congrArg some (by kernel_rfl))
 f236 := Tryd.func46.trans (congrArg some (by kernel_rfl))
 f260 := Tryd.func66.trans (congrArg some (by kernel_rfl))
 f266 := Tryd.func80.trans (congrArg some (by kernel_rfl))
 f271 := Tryd.func57.trans (congrArg some (by kernel_rfl))
 t0 := Tryd.underlying0
 a0 := Tryd.isAgg0
 z0 := Tryd.sizeOf0
 v0 := Tryd.zeroValue0
 t3 := Tryd.underlying3
 a3 := Tryd.isAgg3
 z3 := Tryd.sizeOf3
 v3 := Tryd.zeroValue3
 t4 := Tryd.underlying4
 a4 := Tryd.isAgg4
 z4 := Tryd.sizeOf4
 v4 := Tryd.zeroValue4
 t5 := Tryd.underlying5
 a5 := Tryd.isAgg5
 z5 := Tryd.sizeOf5
 v5 := Tryd.zeroValue5
 t9 := Tryd.underlying9
 a9 := Tryd.isAgg9
 z9 := Tryd.sizeOf9
 v9 := Tryd.zeroValue9
 t21 := Tryd.underlying21
 a21 := Tryd.isAgg21
 z21 := Tryd.sizeOf21
 v21 := Tryd.zeroValue21
 t46 := Tryd.underlying81
 a46 := Tryd.isAgg81
 z46 := Tryd.sizeOf81
 v46 := Tryd.zeroValue81
 t105 := Tryd.underlying70
 a105 := Tryd.isAgg70
 z105 := Tryd.sizeOf70
 v105 := Tryd.zeroValue70
 t116 := Tryd.underlying60
 a116 := Tryd.isAgg60
 z116 := Tryd.sizeOf60
 t117 := Tryd.underlying61
 a117 := Tryd.isAgg61
 z117 := Tryd.sizeOf61
 v117 := Tryd.zeroValue61
 t119 := Tryd.underlying80
 a119 := Tryd.isAgg80
 z119 := Tryd.sizeOf80
 t124 := Tryd.underlying64
 a124 := Tryd.isAgg64
 z124 := Tryd.sizeOf64
 v124 := Tryd.zeroValue64
 t138 := Tryd.underlying83
 a138 := Tryd.isAgg83
 z138 := Tryd.sizeOf83
 v138 := Tryd.zeroValue83
 t139 := Tryd.underlying84
 a139 := Tryd.isAgg84
 z139 := Tryd.sizeOf84
 v139 := Tryd.zeroValue84
 g3 := by kernel_rfl
 g4 := by kernel_rfl }
end
/-- traffic -/
def trafficB (s : ByteArray) : Bool := decide ((s.size : Int) ≤ 40) && (Lib.trimS s.data.toList [117, 100]).isEmpty
def impl_IsTraffic.f (a0 : ByteArray) : Option Bool := if a0.size ≤ 140737488351232 then some (trafficB a0) else none
theorem trim_calls (s : ByteArray) (hs : s.size ≤ 140737488351232) (W : World) : Calls Tryd.prog 27 #[.string s, .string ⟨#[117, 100]⟩] W fun e w' => e = .returned (.string ⟨(Lib.trimS s.data.toList [117, 100]).toArray⟩) ∧ Below W.heap.size W w' :=
 Any.strings_Trim_laid Tryd.lays160 (by kernel_rfl) s ⟨#[117, 100]⟩ W (by omega) (by decide) (ascii_of_all (by decide))
theorem empty_of (l : List UInt8) : (⟨l.toArray⟩ : ByteArray).toList.isEmpty = l.isEmpty := by rw [Lib.toList_data]
set_option maxHeartbeats 2000000 in
set_option maxRecDepth 100000 in
theorem impl_IsTraffic.calls (a0 : ByteArray) (r : Bool) (w : World) (h : impl_IsTraffic.f a0 = some r) : Calls Tryd.prog 9 #[.string a0] w fun e w' => e = .returned (.bool r) ∧ Below w.heap.size w w' := by
 unfold impl_IsTraffic.f at h
 by_cases hs : a0.size ≤ 140737488351232
 ·rw [if_pos hs] at h
  obtain rfl := Option.some.inj h
  clear h
  have hC := Aside0.mk (fun W => trim_calls a0 hs W)
  clear hs
  unfold trafficB
  by_cases c1 : (a0.size : Int) ≤ 40
  ·have c2 : decide ((a0.size : Int) ≤ 40) = true := decide_eq_true c1
   have c3 : decide (a0.size ≤ 40) = true := decide_eq_true (by omega)
   rw [c2]
   clear c1
   have HE := Aside0.mk (empty_of (Lib.trimS a0.data.toList [117, 100]))
   generalize Lib.trimS a0.data.toList [117, 100] = l at hC HE ⊢
   generalize (⟨l.toArray⟩ : ByteArray) = str at hC HE
   cases hl : l.isEmpty with
   | true =>
    have h1 : str.toList.isEmpty = true := by rw [HE.out, hl]
    have h2 : str.toList = [] := List.isEmpty_iff.mp h1
    clear hl
    go_enter Tryd.func9, Tryd.ntmps9
    go_wp2_with (go_at_call 27; refine (hC.out _).mono ?_; rintro e w1 ⟨rfl, hb⟩; have HB := Aside0.mk hb; clear hb)
    go_ret
    exact ⟨by first | rfl | simp, HB.out⟩
   | false =>
    have h1 : str.toList.isEmpty = false := by rw [HE.out, hl]
    have h2 : (!str.toList.isEmpty) = true := by rw [h1]; rfl
    have h3 : (str.toList = []) = False := eq_false (fun e => by rw [e] at h1; cases h1)
    clear hl
    go_enter Tryd.func9, Tryd.ntmps9
    go_wp2_with (go_at_call 27; refine (hC.out _).mono ?_; rintro e w1 ⟨rfl, hb⟩; have HB := Aside0.mk hb; clear hb)
    go_ret
    exact ⟨by first | rfl | simp, HB.out⟩
  ·have c2 : decide ((a0.size : Int) ≤ 40) = false := decide_eq_false c1
   have c3 : decide (a0.size ≤ 40) = false := decide_eq_false (by omega)
   rw [c2]
   clear c1
   go_enter Tryd.func9, Tryd.ntmps9
   go_wp2
   go_ret
   exact ⟨by first | rfl | simp, Below.refl _ _⟩
 ·rw [if_neg hs] at h
  exact absurd h (by simp)

/-! ### impl_within: function 60 -/
def impl_within.f (a0 : Int) (a1 : Int) (a2 : Int) : Option (Bool) := if a1 ≤ a0 then (some (decide (a0 ≤ a2))) else (some false)
set_option maxHeartbeats 8000000 in
set_option maxRecDepth 100000 in
theorem impl_within.calls (a0 : Int) (a1 : Int) (a2 : Int) (r : Bool) (w : World) (h : impl_within.f a0 a1 a2 = some r) :
  Calls Tryd.prog 60 #[.int .i64 a0, .int .i64 a1, .int .i64 a2] w fun e w' => e = .returned (.bool r) ∧ Drawn0 w w' := by
 have H : (if a1 ≤ a0 then (some (decide (a0 ≤ a2))) else (some false)) = some r := h
 clear h
 by_cases c4 : a1 ≤ a0
 ·rw [if_pos c4] at H
  have c4b0 : decide (a1 ≤ a0) = true := decide_eq_true c4
  clear c4
  obtain rfl := Option.some.inj H
  go_enter Tryd.func60, Tryd.ntmps60
  go_wp2
  go_ret
  exact ⟨by first | rfl | (simp; done) | (simp [*]; done), by repeat (first | exact Drawn0.refl _ | apply Drawn0.step)⟩
 ·rw [if_neg c4] at H
  have c4b0 : decide (a1 ≤ a0) = false := decide_eq_false c4
  clear c4
  obtain rfl := Option.some.inj H
  go_enter Tryd.func60, Tryd.ntmps60
  go_wp2
  go_ret
  exact ⟨by first | rfl | (simp; done) | (simp [*]; done), by repeat (first | exact Drawn0.refl _ | apply Drawn0.step)⟩

-- NOT PRINTED: function 78 (slices_IndexFunc_int_int)

-- NOT PRINTED: function 69 (slices_ContainsFunc_int_int)

/-- slices.IndexFunc over whole numbers, whatever the function value: where it first holds, or -1. -/
theorem indexInts.calls (p : Int → Bool) (g : Nat) (lb : Array Value) (eg : ∀ args w, (callFunc g args).run Tryd.prog w = .ok (.enter g args) w) (A0 : Option Addr) (c0 : Nat) (l0 : List Int) (w : World)
  (hp : ∀ (W : World) (x : Int), Below w.heap.size w W → Calls Tryd.prog g (#[.int .i64 x] ++ lb) W fun e w' => e = .returned (.bool (p x)) ∧ Below w.heap.size w w')
  (hr0 : Kd.C (Kd.int .i64) w A0 l0.length l0) :
  Calls Tryd.prog 78 #[.slice A0 l0.length c0, .func (.func g) #[] lb] w fun e w' => ∃ r : Int, e = .returned (.int .i64 r) ∧ decide (r ≥ 0) = l0.any p ∧ Below w.heap.size w w' := by
 have HR0 := Aside0.mk hr0
 clear hr0
 have HN := Aside0.mk (HR0.out.2.1)
 go_enter Tryd.func78, Tryd.ntmps78
 go_wp2
 go_loopg [5, 8] l0.length (fun gg _ s8 wr => ∃ x8 : Int, s8 = .int .i64 x8 ∧ Aside0 (0 ≤ x8 ∧ x8 ≤ l0.length) ∧ Aside0 (l0.length - x8.toNat ≤ gg) ∧ Aside0 (Below w.heap.size w wr) ∧ Aside0 (∀ j : Nat, j < x8.toNat → p (rd l0 j) = false))
 case atStart => exact ⟨0, rfl, ⟨by omega⟩, ⟨by simp⟩, ⟨Below.refl _ w⟩, ⟨fun j hj => absurd hj (by simp)⟩⟩
 case round =>
  obtain ⟨x8, rfl, HX, HG, HB, HA⟩ := hrel
  by_cases hlt : x8 < (l0.length : Int)
  ·have c1 : decide (x8 < (l0.length : Int)) = true := decide_eq_true hlt
   have c2 : decide (0 ≤ x8) = true := decide_eq_true HX.out.1
   obtain ⟨ad, e1, hx⟩ := Kd.at_int (Kd.C_below HR0.out HB.out) x8 HX.out.1 hlt
   cases e1
   have q1 := eq_true HX.out.1
   have q2 := eq_true hlt
   have HL := Aside0.mk hlt
   clear hlt
   have hcall := Aside0.mk (hp wr (rd l0 x8) HB.out)
   have HP := Aside0.mk hp
   clear hp
   cases hq : p (rd l0 x8) with
   | true =>
    have HQ := Aside0.mk hq
    clear hq
    go_wp2_with (go_at_fn g; refine hcall.out.mono ?_; rintro e w' ⟨rfl, hb'⟩; have HB' := Aside0.mk hb'; clear hb'; simp only [HQ.out])
    go_ret
    refine ⟨x8, rfl, ?_, HB'.out⟩
    rw [decide_eq_true HX.out.1]
    refine (List.any_eq_true.mpr ⟨rd l0 x8, ?_, HQ.out⟩).symm
    have hn : x8.toNat < l0.length := by have := HX.out.1; have := HL.out; omega
    unfold rd
    rw [List.getD_eq_getElem?_getD, List.getElem?_eq_getElem hn]
    exact List.getElem_mem hn
   | false =>
    have HQ := Aside0.mk hq
    clear hq
    go_wp2_with (go_at_fn g; refine hcall.out.mono ?_; rintro e w' ⟨rfl, hb'⟩; have HB' := Aside0.mk hb'; clear hb'; simp only [HQ.out])
    go_roundg (l0.length - (x8.toNat + 1))
    case measure => have := HG.out; have := HX.out.1; have := HL.out; omega
    case rel =>
     have hw : wrap64 (x8 + 1) = x8 + 1 := by have := HX.out.1; have := HL.out; have := HN.out; unfold wrap64; omega
     refine ⟨x8 + 1, by rw [hw], ⟨by have := HX.out.1; have := HL.out; omega⟩, ⟨by have := HX.out.1; omega⟩, ⟨HB'.out⟩, ⟨fun j hj => ?_⟩⟩
     by_cases e : j < x8.toNat
     ·exact HA.out j e
     ·have : (j : Int) = x8 := by have := HX.out.1; omega
      rw [this]
      exact HQ.out
  ·have c1 : decide (x8 < (l0.length : Int)) = false := decide_eq_false hlt
   have HL := Aside0.mk hlt
   clear hlt
   go_wp2
   go_ret
   refine ⟨-1, rfl, ?_, HB.out⟩
   rw [decide_eq_false (by decide)]
   refine (List.any_eq_false.mpr fun x hx => ?_).symm
   obtain ⟨j, hj, rfl⟩ := List.mem_iff_getElem.1 hx
   have := HA.out j (by have := HX.out; have := HL.out; omega)
   unfold rd at this
   rw [List.getD_eq_getElem?_getD, Int.toNat_natCast, List.getElem?_eq_getElem hj] at this
   simpa using this

theorem containsInts.calls (p : Int → Bool) (g : Nat) (lb : Array Value) (eg : ∀ args w, (callFunc g args).run Tryd.prog w = .ok (.enter g args) w) (A0 : Option Addr) (c0 : Nat) (l0 : List Int) (w : World)
  (hp : ∀ (W : World) (x : Int), Below w.heap.size w W → Calls Tryd.prog g (#[.int .i64 x] ++ lb) W fun e w' => e = .returned (.bool (p x)) ∧ Below w.heap.size w w')
  (hr0 : Kd.C (Kd.int .i64) w A0 l0.length l0) :
  Calls Tryd.prog 69 #[.slice A0 l0.length c0, .func (.func g) #[] lb] w fun e w' => e = .returned (.bool (l0.any p)) ∧ Below w.heap.size w w' := by
 have hc := Aside0.mk (indexInts.calls p g lb eg A0 c0 l0 w hp hr0)
 clear hp hr0
 go_enter Tryd.func69, Tryd.ntmps69
 go_wp2_with (go_at_call 78; refine hc.out.mono ?_; rintro e w' ⟨r, rfl, hr, hb⟩; have HB := Aside0.mk hb; have HR := Aside0.mk hr; clear hb hr)
 go_ret
 refine ⟨?_, HB.out⟩
 rw [← HR.out]
 first | rfl | simp

/-! ### impl_areWithin: function 61 -/
def impl_areWithin.f (l0 : List Int) (a1 : Int) (a2 : Int) : Option (Bool) := some (!(l0.any fun x => !(decide (a1 ≤ x) && decide (x ≤ a2))))
theorem impl_areWithin.closure (a1 a2 : Int) (B : Nat) (w : World) (hB : B + 1 < w.heap.size) (h1 : w.cell? ⟨B, 0, none⟩ = some (.int .i64 a1)) (h2 : w.cell? ⟨B + 1, 0, none⟩ = some (.int .i64 a2)) (W : World) (x : Int) (hb : Below w.heap.size w W) :
  Calls Tryd.prog 70 (#[.int .i64 x] ++ #[.pointer (some ⟨B, 0, none⟩), .pointer (some ⟨B + 1, 0, none⟩)]) W fun e w' => e = .returned (.bool (!(decide (a1 ≤ x) && decide (x ≤ a2)))) ∧ Below w.heap.size w w' := by
 have g1 := (hb.cell (p := ⟨B, 0, none⟩) (show B < w.heap.size by omega)).trans h1
 have g2 := (hb.cell (p := ⟨B + 1, 0, none⟩) hB).trans h2
 have HB := Aside0.mk hb
 clear hb h1 h2
 show Calls Tryd.prog 70 #[.int .i64 x, .pointer (some ⟨B, 0, none⟩), .pointer (some ⟨B + 1, 0, none⟩)] W _
 by_cases c : a1 ≤ x
 ·have hw := Aside0.mk (fun W' => impl_within.calls x a1 a2 (decide (x ≤ a2)) W' (by unfold impl_within.f; rw [if_pos c]))
  rw [decide_eq_true c]
  clear c
  go_enter Tryd.func70, Tryd.ntmps70
  go_wp2_with (go_at_call 60; refine (hw.out _).mono ?_; rintro e w' ⟨rfl, hd⟩; obtain ⟨q, rfl⟩ := hd.out)
  go_ret
  exact ⟨by first | rfl | simp, by first | exact HB.out | exact pw_below_drewN HB.out _⟩
 ·have hw := Aside0.mk (fun W' => impl_within.calls x a1 a2 false W' (by unfold impl_within.f; rw [if_neg c]))
  rw [decide_eq_false c]
  clear c
  go_enter Tryd.func70, Tryd.ntmps70
  go_wp2_with (go_at_call 60; refine (hw.out _).mono ?_; rintro e w' ⟨rfl, hd⟩; obtain ⟨q, rfl⟩ := hd.out)
  go_ret
  exact ⟨by first | rfl | simp, by first | exact HB.out | exact pw_below_drewN HB.out _⟩
set_option maxHeartbeats 2000000 in
theorem impl_areWithin.calls (A0 : Option Addr) (c0 : Nat) (l0 : List Int) (a1 : Int) (a2 : Int) (r : Bool) (w : World) (hr0 : Kd.C (Kd.int .i64) w A0 l0.length l0) (hc0 : l0.length ≤ c0) (h : impl_areWithin.f l0 a1 a2 = some r) :
  Calls Tryd.prog 61 #[.slice A0 l0.length c0, .int .i64 a1, .int .i64 a2] w fun e w' => e = .returned (.bool r) ∧ Below w.heap.size w w' := by
 obtain rfl := Option.some.inj h
 clear h
 have HR0 := Aside0.mk hr0
 clear hr0
 have hC := Aside0.mk (fun (W : World) (hb : Below w.heap.size w W) (hB : w.heap.size + 1 < W.heap.size) (h1 : W.cell? ⟨w.heap.size, 0, none⟩ = some (.int .i64 a1)) (h2 : W.cell? ⟨w.heap.size + 1, 0, none⟩ = some (.int .i64 a2)) =>
  containsInts.calls (fun x => !(decide (a1 ≤ x) && decide (x ≤ a2))) 70 #[.pointer (some ⟨w.heap.size, 0, none⟩), .pointer (some ⟨w.heap.size + 1, 0, none⟩)] (enters_of Tryd.func70 (by kernel_rfl) rfl) A0 c0 l0 W
   (fun W' x hb' => impl_areWithin.closure a1 a2 w.heap.size W hB h1 h2 W' x hb') (Kd.C_below HR0.out hb))
 have HW := Aside0.mk (Below.refl w.heap.size w)
 go_enter Tryd.func61, Tryd.ntmps61
 go_wp2_with (go_at_call 69; refine (hC.out _ (by first | exact below_alloc (below_alloc HW.out _) _) (by simp) (by simp) (by simp)).mono ?_; rintro e w' ⟨rfl, hb⟩; have HB := Aside0.mk hb; clear hb)
 go_ret
 refine ⟨by first | rfl | simp, ?_⟩
 have h0 := below_alloc (below_alloc HW.out (.cells #[.int .i64 a1] 3)) (.cells #[.int .i64 a2] 3)
 exact below_then h0 h0.size HB.out

/-! ### impl_IsFlight: function 48 -/
def impl_IsFlight.f (l0_0 : List Int) (l0_1 : List Bool) : Option (Bool) := (impl_within.f (l0_0.length : Int) 1 6).bind fun t164 => (if t164 = true then (if (l0_1.length : Int) = (l0_0.length : Int) then ((impl_areWithin.f l0_0 1 20).bind fun t165 => (some t165)) else (some false)) else (some false))
set_option maxHeartbeats 8000000 in
set_option maxRecDepth 100000 in
theorem impl_IsFlight.calls (A0_0 : Option Addr) (c0_0 : Nat) (l0_0 : List Int) (A0_1 : Option Addr) (c0_1 : Nat) (l0_1 : List Bool) (r : Bool) (w : World) (hr0_0 : Kd.C (Kd.int .i64) w A0_0 l0_0.length l0_0) (hc0_0 : l0_0.length ≤ c0_0) (hr0_1 : Kd.C Kd.bool w A0_1 l0_1.length l0_1) (hc0_1 : l0_1.length ≤ c0_1) (h : impl_IsFlight.f l0_0 l0_1 = some r) :
  Calls Tryd.prog 48 #[.agg #[.slice A0_0 l0_0.length c0_0, .slice A0_1 l0_1.length c0_1]] w fun e w' => e = .returned (.bool r) ∧ Below w.heap.size w w' := by
 have hu30 := Tryd.underlying30
 have HR0_0 := Aside0.mk hr0_0
 have HC0_0 := Aside0.mk hc0_0
 clear hr0_0 hc0_0
 have HR0_1 := Aside0.mk hr0_1
 have HC0_1 := Aside0.mk hc0_1
 clear hr0_1 hc0_1
 have HB := Aside0.mk (Below.refl w.heap.size w)
 have H : ((impl_within.f (l0_0.length : Int) 1 6).bind fun t164 => (if t164 = true then (if (l0_1.length : Int) = (l0_0.length : Int) then ((impl_areWithin.f l0_0 1 20).bind fun t165 => (some t165)) else (some false)) else (some false))) = some r := h
 clear h
 replace H := Option.bind_eq_some_iff.mp H
 obtain ⟨t164, A20, H⟩ := H
 replace H : (if t164 = true then (if (l0_1.length : Int) = (l0_0.length : Int) then ((impl_areWithin.f l0_0 1 20).bind fun t165 => (some t165)) else (some false)) else (some false)) = some r := H
 have A2 := Aside0.mk A20
 clear A20
 by_cases c3 : t164 = true
 ·subst c3
  have H1 : (if (l0_1.length : Int) = (l0_0.length : Int) then ((impl_areWithin.f l0_0 1 20).bind fun t165 => (some t165)) else (some false)) = some r := by rw [if_pos rfl] at H; exact H
  clear H
  have H := H1
  clear H1
  by_cases c4 : (l0_1.length : Int) = (l0_0.length : Int)
  ·rw [if_pos c4] at H
   have c4b0 : ((l0_1.length : Int) == (l0_0.length : Int)) = true := beq_iff_eq.mpr c4
   have c4b1 : ((l0_1.length : Int) != (l0_0.length : Int)) = false := bne_eq_false_iff_eq.mpr c4
   have c4b2 : (l0_1.length == l0_0.length) = true := by first | simpa using c4 | (simp at c4 ⊢; omega)
   clear c4
   replace H := Option.bind_eq_some_iff.mp H
   obtain ⟨t165, A50, H⟩ := H
   replace H : (some t165) = some r := H
   have A5 := Aside0.mk A50
   clear A50
   obtain rfl := Option.some.inj H
   go_enter Tryd.func48, Tryd.ntmps48
   go_wp2_with (first | ((with_reducible refine gate_dst (N := 1) rfl ?_); (try (refine gate_guard (by rfl) ?_; dsimp only)); refine box_event ?hg (N := 1) ?hd (cs := #[.slice A0_0 l0_0.length c0_0, .slice A0_1 l0_1.length c0_1]) (t := 30) ?hr ?_; (case hd => rfl); (case hg => rfl); (case hr => first | (go_simp; done) | (go_simp; rfl)); intro gb163 hg w6 hbox hb; have BK163 := Aside0.mk (hbox); have GW163 := xg HB hg; have GE163 := xg HB hg; replace HB := xp HB hb; clear hb hbox hg; have hcz7_0 : w6.cell? ⟨gb163, 0, none⟩ = some (.slice A0_0 l0_0.length c0_0) := (blk_cell BK163.out 0).trans rfl; have hcz7_1 : w6.cell? ⟨gb163, 1, none⟩ = some (.slice A0_1 l0_1.length c0_1) := (blk_cell BK163.out 1).trans rfl; have hfz7_0 := blk_frozen BK163.out 0; have hfz7_1 := blk_frozen BK163.out 1) | ((with_reducible refine gate_callee (f := 60) rfl ?_); refine goesL_ (some 6) rfl rfl Tryd.func60 (by kernel_rfl) rfl #[.int .i64 (l0_0.length : Int), .int .i64 1, .int .i64 6] rfl (by (try simp only [List.map_toArray, List.map_cons, List.map_nil]); first | done | rfl | (simp only [List.length_drop, List.length_take]; rfl)) ?_; (with_reducible refine (impl_within.calls (l0_0.length : Int) 1 6 true _ A2.out).mono ?_); rintro e w' ⟨rfl, ⟨nd, rfl⟩⟩; refine ⟨_, rfl, ?_⟩) | (go_at_call 61; (with_reducible refine (impl_areWithin.calls _ _ l0_0 1 20 t165 _ ?side1 ?side2 A5.out).mono ?_); (case side1 => repeat (first | exact (Kd.C_below HR0_0.out (xs HB.out)) | (with_reducible refine Kd.C_alloc ?_ _) | (with_reducible refine Kd.C_drewN ?_ _) | (with_reducible refine Kd.C_drew ?_))); (case side2 => exact HC0_0.out); rintro e w8 ⟨rfl, hb⟩; replace BK163 := xk BK163 hb; replace HB := xp HB hb; (try clear hb); (try clear hb2); (try clear hk); (try clear hi)))
   go_ret
   exact ⟨by first | rfl | (simp [errW_none, errW_some] <;> rfl) | (simp [*, errW_none, errW_some] <;> rfl), by repeat (first | (with_reducible first | exact HB.out | apply below_alloc | apply pw_below_drewN | apply below_drew1 | refine below_set ?_ GE163.out) | exact HB.out)⟩
  ·rw [if_neg c4] at H
   have c4b0 : ((l0_1.length : Int) == (l0_0.length : Int)) = false := beq_eq_false_iff_ne.mpr c4
   have c4b1 : ((l0_1.length : Int) != (l0_0.length : Int)) = true := bne_iff_ne.mpr c4
   have c4b2 : (l0_1.length == l0_0.length) = false := by first | simpa using c4 | (simp at c4 ⊢; omega)
   obtain rfl := Option.some.inj H
   go_enter Tryd.func48, Tryd.ntmps48
   go_wp2_with (first | ((with_reducible refine gate_dst (N := 1) rfl ?_); (try (refine gate_guard (by rfl) ?_; dsimp only)); refine box_event ?hg (N := 1) ?hd (cs := #[.slice A0_0 l0_0.length c0_0, .slice A0_1 l0_1.length c0_1]) (t := 30) ?hr ?_; (case hd => rfl); (case hg => rfl); (case hr => first | (go_simp; done) | (go_simp; rfl)); intro gb163 hg w9 hbox hb; have BK163 := Aside0.mk (hbox); have GW163 := xg HB hg; have GE163 := xg HB hg; replace HB := xp HB hb; clear hb hbox hg; have hcz10_0 : w9.cell? ⟨gb163, 0, none⟩ = some (.slice A0_0 l0_0.length c0_0) := (blk_cell BK163.out 0).trans rfl; have hcz10_1 : w9.cell? ⟨gb163, 1, none⟩ = some (.slice A0_1 l0_1.length c0_1) := (blk_cell BK163.out 1).trans rfl; have hfz10_0 := blk_frozen BK163.out 0; have hfz10_1 := blk_frozen BK163.out 1) | ((with_reducible refine gate_callee (f := 60) rfl ?_); refine goesL_ (some 6) rfl rfl Tryd.func60 (by kernel_rfl) rfl #[.int .i64 (l0_0.length : Int), .int .i64 1, .int .i64 6] rfl (by (try simp only [List.map_toArray, List.map_cons, List.map_nil]); first | done | rfl | (simp only [List.length_drop, List.length_take]; rfl)) ?_; (with_reducible refine (impl_within.calls (l0_0.length : Int) 1 6 true _ A2.out).mono ?_); rintro e w' ⟨rfl, ⟨nd, rfl⟩⟩; refine ⟨_, rfl, ?_⟩))
   go_ret
   exact ⟨by first | rfl | (simp [errW_none, errW_some] <;> rfl) | (simp [*, errW_none, errW_some] <;> rfl), by repeat (first | (with_reducible first | exact HB.out | apply below_alloc | apply pw_below_drewN | apply below_drew1 | refine below_set ?_ GE163.out) | exact HB.out)⟩
 ·replace c3 := Bool.eq_false_iff.mpr c3
  subst c3
  have H1 : (some false) = some r := by rw [if_neg (show ¬ (false = true) by decide)] at H; exact H
  clear H
  have H := H1
  clear H1
  obtain rfl := Option.some.inj H
  go_enter Tryd.func48, Tryd.ntmps48
  go_wp2_with (first | ((with_reducible refine gate_dst (N := 1) rfl ?_); (try (refine gate_guard (by rfl) ?_; dsimp only)); refine box_event ?hg (N := 1) ?hd (cs := #[.slice A0_0 l0_0.length c0_0, .slice A0_1 l0_1.length c0_1]) (t := 30) ?hr ?_; (case hd => rfl); (case hg => rfl); (case hr => first | (go_simp; done) | (go_simp; rfl)); intro gb163 hg w11 hbox hb; have BK163 := Aside0.mk (hbox); have GW163 := xg HB hg; have GE163 := xg HB hg; replace HB := xp HB hb; clear hb hbox hg; have hcz12_0 : w11.cell? ⟨gb163, 0, none⟩ = some (.slice A0_0 l0_0.length c0_0) := (blk_cell BK163.out 0).trans rfl; have hcz12_1 : w11.cell? ⟨gb163, 1, none⟩ = some (.slice A0_1 l0_1.length c0_1) := (blk_cell BK163.out 1).trans rfl; have hfz12_0 := blk_frozen BK163.out 0; have hfz12_1 := blk_frozen BK163.out 1) | ((with_reducible refine gate_callee (f := 60) rfl ?_); refine goesL_ (some 6) rfl rfl Tryd.func60 (by kernel_rfl) rfl #[.int .i64 (l0_0.length : Int), .int .i64 1, .int .i64 6] rfl (by (try simp only [List.map_toArray, List.map_cons, List.map_nil]); first | done | rfl | (simp only [List.length_drop, List.length_take]; rfl)) ?_; (with_reducible refine (impl_within.calls (l0_0.length : Int) 1 6 false _ A2.out).mono ?_); rintro e w' ⟨rfl, ⟨nd, rfl⟩⟩; refine ⟨_, rfl, ?_⟩))
  go_ret
  exact ⟨by first | rfl | (simp [errW_none, errW_some] <;> rfl) | (simp [*, errW_none, errW_some] <;> rfl), by repeat (first | (with_reducible first | exact HB.out | apply below_alloc | apply pw_below_drewN | apply below_drew1 | refine below_set ?_ GE163.out) | exact HB.out)⟩

/-! ### slices_Clone_int_int: function 62 -/
def slices_Clone_int_int.f (l0 : List Int) : Option (List Int) := if l0.length < 17592186044416 then some l0 else none
set_option maxHeartbeats 8000000 in
set_option maxRecDepth 100000 in
theorem slices_Clone_int_int.calls (A0 : Option Addr) (c0 : Nat) (l0 : List Int) (r : List Int) (w : World) (hr0 : Kd.C (Kd.int .i64) w A0 l0.length l0) (hc0 : l0.length ≤ c0) (h : slices_Clone_int_int.f l0 = some r) :
  Calls Tryd.prog 62 #[.slice A0 l0.length c0] w fun e w' => ∃ v0_ : Value, e = .returned (v0_) ∧ Kd.R (Kd.int .i64) 3 w' w.heap.size (fun _ => True) v0_ r ∧ Below w.heap.size w w' := by
 have q22 : ∀ (w : World) (a : Option Addr) (n c n' c' : Nat), (binOp .eql 23 (.slice a n c) (.slice none n' c')).run Tryd.prog w = .ok (.bool a.isNone) w := fun w a n c n' c' => Lib.run_eql_slice_nil w _ _ a n c n' c' Tryd.underlying23
 unfold slices_Clone_int_int.f at h
 by_cases c2 : l0.length < 17592186044416
 ·rw [if_pos c2] at h
  obtain rfl := Option.some.inj h
  clear h
  have LMc2 := Aside0.mk c2
  clear c2
  have HR0 := Aside0.mk hr0
  have HB := Aside0.mk (Below.refl w.heap.size w)
  cases A0 with
  | none =>
   have hz : l0 = [] := by
    by_cases h0 : 0 < l0.length
    ·obtain ⟨ad, e1, _⟩ := HR0.out.2.2 h0
     cases e1
    ·exact List.eq_nil_of_length_eq_zero (by omega)
   subst hz
   clear hr0
   go_enter Tryd.func62, Tryd.ntmps62
   go_wp2
   go_ret
   exact ⟨.slice none 0 0, rfl, Kd.R_nil _ _ _ _ _, HB.out⟩
  | some ad =>
   clear hr0
   obtain ⟨y149, hy149⟩ : ∃ y_ : List Int, y_ = [] := ⟨_, rfl⟩
   have Ny149 := Aside0.mk hy149
   clear hy149
   go_enter Tryd.func62, Tryd.ntmps62
   go_wp2_with (first | ((with_reducible refine gate_dst (N := 5) rfl ?_); refine Kd.R_lit (Kd.int .i64) _ 3 ?hg (N := 5) ?hd (xs := ([] : List Int)) (inner := []) (ok := fun _ => True) (okp := fun _ => True) ?hr ?hp (fun _ hk => hk) trivial (Below.refl _ _) (Nat.le_refl _) (by simp) ?_; (case hd => rfl); (case hg => rfl); (case hr => first | (go_simp; done) | (go_simp; rfl)); (case hp => exact (Reps.none _ _)); intro v150 w3 ho4 hb hg_ hnew_; clear hg_ hnew_; (first | rw [← Ny149.out] at ho4 | (simp only [Int.reduceToNat] at ho4; rw [← Ny149.out] at ho4)); have HO151 := Aside0.mk (Kd.R_lower ho4 (below_size (xs HB.out))); replace HB := xp HB hb; clear hb ho4) | ((with_reducible refine gate_builtin (b := .append) (xs := #[.tmp 5, .tmp 6]) rfl ?_); at_builtin; refine Kd.R_append_rows (Kd.int .i64) (w0 := w) w.heap.size rfl (.tmp 5) (.tmp 6) 23 3 (.int .i64 0) 8 rfl Tryd.underlying23 info3 rfl (by decide) (by omega) v150 y149 l0 _ _ _ (fun _ => True) (fun _ => False) rfl rfl ?aO ?aR (fun _ _ h => h) (fun _ h => h.elim) ?aF ?aB ?aS ?aL ?_; (case aR => exact xd ((Kd.C_below HR0.out HB.out))); (case aB => exact (xs HB.out)); (case aF => exact (fun _ _ => trivial)); (case aO => exact (xr HO151.out)); (case aS => exact (below_size (xs HB.out))); (case aL => have h1_ := LMc2.out; rw [Ny149.out]; simp only [List.length_nil]; omega); intro v153 w5 ho hb hg hat; rw [Ny149.out, List.nil_append] at ho; replace HB := Aside0.mk (hb); have HO154 := Aside0.mk (ho); clear HO151; clear ho hb hg hat))
   go_ret
   exact ⟨_, by first | rfl | (simp; done) | (simp [*]; done), by (with_reducible repeat (first | apply Kd.R_alloc | apply Kd.R_drewN | apply Kd.R_drew)); exact HO154.out, (xs HB.out)⟩
 ·rw [if_neg c2] at h
  exact absurd h (by simp)

/-! ### slices_Clone_bool_bool: function 63 -/
def slices_Clone_bool_bool.f (l0 : List Bool) : Option (List Bool) := if l0.length < 140737488355328 then some l0 else none
set_option maxHeartbeats 8000000 in
set_option maxRecDepth 100000 in
theorem slices_Clone_bool_bool.calls (A0 : Option Addr) (c0 : Nat) (l0 : List Bool) (r : List Bool) (w : World) (hr0 : Kd.C Kd.bool w A0 l0.length l0) (hc0 : l0.length ≤ c0) (h : slices_Clone_bool_bool.f l0 = some r) :
  Calls Tryd.prog 63 #[.slice A0 l0.length c0] w fun e w' => ∃ v0_ : Value, e = .returned (v0_) ∧ Kd.R Kd.bool 4 w' w.heap.size (fun _ => True) v0_ r ∧ Below w.heap.size w w' := by
 have q22 : ∀ (w : World) (a : Option Addr) (n c n' c' : Nat), (binOp .eql 24 (.slice a n c) (.slice none n' c')).run Tryd.prog w = .ok (.bool a.isNone) w := fun w a n c n' c' => Lib.run_eql_slice_nil w _ _ a n c n' c' Tryd.underlying24
 unfold slices_Clone_bool_bool.f at h
 by_cases c2 : l0.length < 140737488355328
 ·rw [if_pos c2] at h
  obtain rfl := Option.some.inj h
  clear h
  have LMc2 := Aside0.mk c2
  clear c2
  have HR0 := Aside0.mk hr0
  have HB := Aside0.mk (Below.refl w.heap.size w)
  cases A0 with
  | none =>
   have hz : l0 = [] := by
    by_cases h0 : 0 < l0.length
    ·obtain ⟨ad, e1, _⟩ := HR0.out.2.2 h0
     cases e1
    ·exact List.eq_nil_of_length_eq_zero (by omega)
   subst hz
   clear hr0
   go_enter Tryd.func63, Tryd.ntmps63
   go_wp2
   go_ret
   exact ⟨.slice none 0 0, rfl, Kd.R_nil _ _ _ _ _, HB.out⟩
  | some ad =>
   clear hr0
   obtain ⟨y149, hy149⟩ : ∃ y_ : List Bool, y_ = [] := ⟨_, rfl⟩
   have Ny149 := Aside0.mk hy149
   clear hy149
   go_enter Tryd.func63, Tryd.ntmps63
   go_wp2_with (first | ((with_reducible refine gate_dst (N := 5) rfl ?_); refine Kd.R_lit Kd.bool _ 4 ?hg (N := 5) ?hd (xs := ([] : List Bool)) (inner := []) (ok := fun _ => True) (okp := fun _ => True) ?hr ?hp (fun _ hk => hk) trivial (Below.refl _ _) (Nat.le_refl _) (by simp) ?_; (case hd => rfl); (case hg => rfl); (case hr => first | (go_simp; done) | (go_simp; rfl)); (case hp => exact (Reps.none _ _)); intro v150 w3 ho4 hb hg_ hnew_; clear hg_ hnew_; (first | rw [← Ny149.out] at ho4 | (simp only [Int.reduceToNat] at ho4; rw [← Ny149.out] at ho4)); have HO151 := Aside0.mk (Kd.R_lower ho4 (below_size (xs HB.out))); replace HB := xp HB hb; clear hb ho4) | ((with_reducible refine gate_builtin (b := .append) (xs := #[.tmp 5, .tmp 6]) rfl ?_); at_builtin; refine Kd.R_append_rows Kd.bool (w0 := w) w.heap.size rfl (.tmp 5) (.tmp 6) 24 4 (.bool false) 1 rfl Tryd.underlying24 info4 rfl (by decide) (by omega) v150 y149 l0 _ _ _ (fun _ => True) (fun _ => False) rfl rfl ?aO ?aR (fun _ _ h => h) (fun _ h => h.elim) ?aF ?aB ?aS ?aL ?_; (case aR => exact xd ((Kd.C_below HR0.out HB.out))); (case aB => exact (xs HB.out)); (case aF => exact (fun _ _ => trivial)); (case aO => exact (xr HO151.out)); (case aS => exact (below_size (xs HB.out))); (case aL => have h1_ := LMc2.out; rw [Ny149.out]; simp only [List.length_nil]; omega); intro v153 w5 ho hb hg hat; rw [Ny149.out, List.nil_append] at ho; replace HB := Aside0.mk (hb); have HO154 := Aside0.mk (ho); clear HO151; clear ho hb hg hat))
   go_ret
   exact ⟨_, by first | rfl | (simp; done) | (simp [*]; done), by (with_reducible repeat (first | apply Kd.R_alloc | apply Kd.R_drewN | apply Kd.R_drew)); exact HO154.out, (xs HB.out)⟩
 ·rw [if_neg c2] at h
  exact absurd h (by simp)

-- NOT PRINTED: function 49 (impl_passageOf)

-- NOT PRINTED: function 71 (impl_passage_put)

-- NOT PRINTED: function 64 (impl_passage_pass)

-- NOT PRINTED: function 50 (impl_passage_ship)

end Go.Proofs.YtmedapafllmhjaaDoor.PFnExactStretchChanges

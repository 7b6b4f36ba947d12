/- Lean functions of the Go functions that the law FnExactStretchChanges reaches, and the proofs that the calls come to what they say (made by program). -/
import Derived.Test.YtmedapafllmhjaaDoorAb
import Derived.Test.YtmedapafllmhjaaDoorPFnExactStretchChangesx0
import Derived.Test.YtmedapafllmhjaaDoorPFnExactStretchChangesx1
import Derived.Test.YtmedapafllmhjaaDoorPFnExactStretchChangesx2
import Derived.Test.YtmedapafllmhjaaDoorPFnExactStretchChangesx3
import Derived.Test.YtmedapafllmhjaaDoorPFnExactStretchChangesx4
import Derived.Test.YtmedapafllmhjaaDoorPFnExactStretchChangesx5
namespace Go.Proofs.YtmedapafllmhjaaDoor.PFnExactStretchChanges
open Go.RowKit Go.Proofs.YtmedapafllmhjaaDoorW.PrintWords Go.Proofs.YtmedapafllmhjaaDoorW.PrintLast Go.Proofs.YtmedapafllmhjaaDoorW.PrintMore Go.Proofs.YtmedapafllmhjaaDoor.Ab
attribute [local go_sem] max2_int min2_int max_two min_two max_three min_three max_four min_four   -- for this text's walks alone
set_option linter.unusedVariables false
set_option linter.unusedSimpArgs false

/-! ### impl_StretchChanges: function 22 -/
def impl_StretchChanges.f (l0_0 : List Int) (l0_1 : List Bool) (a1 : ByteArray) : Option (List Int × Bool) := (impl_IsFlight.f l0_0 l0_1).bind fun t => if a1.size ≤ 140737488351232 then (if (t && trafficB a1) = true then (if l0_1.length = l0_0.length ∧ 1 ≤ l0_0.length ∧ l0_0.length ≤ 1000 then some ((runS l0_0.length a1.data.toList (newS l0_0 l0_1)).ch, true) else none) else some ([], false)) else none
set_option maxHeartbeats 4000000 in
set_option maxRecDepth 100000 in
theorem impl_StretchChanges.calls (A0_0 : Option Addr) (c0_0 : Nat) (l0_0 : List Int) (A0_1 : Option Addr) (c0_1 : Nat) (l0_1 : List Bool) (a1 : ByteArray) (r1 : List Int) (r2 : Bool) (w : World) (hr0_0 : Kd.C (Kd.int .i64) w A0_0 l0_0.length l0_0) (hc0_0 : l0_0.length ≤ c0_0) (hr0_1 : Kd.C Kd.bool w A0_1 l0_1.length l0_1) (hc0_1 : l0_1.length ≤ c0_1) (h : impl_StretchChanges.f l0_0 l0_1 a1 = some (r1, r2)) :
  Calls Tryd.prog 22 #[.agg #[.slice A0_0 l0_0.length c0_0, .slice A0_1 l0_1.length c0_1], .string a1] w fun e w' => ∃ v0_ : Value, e = .returned (.tuple #[v0_, .bool r2]) ∧ Kd.R (Kd.int .i64) 3 w' w.heap.size (fun _ => True) v0_ r1 ∧ Below w.heap.size w w' := by
 have hu30 := Tryd.underlying30
 obtain ⟨t, hT, h⟩ := Option.bind_eq_some_iff.mp h
 by_cases hs : a1.size ≤ 140737488351232
 ·rw [if_pos hs] at h
  have HA := Aside0.mk (below_alloc (Below.refl w.heap.size w) (.cells #[.slice A0_0 l0_0.length c0_0, .slice A0_1 l0_1.length c0_1] 30))
  cases hb : (t && trafficB a1) with
  | false =>
   rw [hb, if_neg (by decide)] at h
   simp only [Option.some.injEq, Prod.mk.injEq] at h
   obtain ⟨rfl, rfl⟩ := h
   have hR := Aside0.mk (fun (W : World) (hbW : Below w.heap.size w W) => implRun.bad A0_0 c0_0 l0_0 A0_1 c0_1 l0_1 a1 t W (Kd.C_below hr0_0 hbW) hc0_0 (Kd.C_below hr0_1 hbW) hc0_1 hT hs hb)
   clear hr0_0 hc0_0 hr0_1 hc0_1 hT hs hb
   go_enter Tryd.func22, Tryd.ntmps22
   go_wp2_with (go_at_call 34; refine (hR.out _ HA.out).mono ?_; rintro e w1 ⟨rfl, hb'⟩; have HB := Aside0.mk (below_then HA.out HA.out.size hb'); clear hb')
   go_ret2
   exact ⟨_, rfl, Kd.R_nil _ _ _ _ _, HB.out⟩
  | true =>
   rw [hb, if_pos rfl] at h
   by_cases hg : l0_1.length = l0_0.length ∧ 1 ≤ l0_0.length ∧ l0_0.length ≤ 1000
   ·rw [if_pos hg] at h
    simp only [Option.some.injEq, Prod.mk.injEq] at h
    obtain ⟨rfl, rfl⟩ := h
    obtain ⟨rfl, htr⟩ := Bool.and_eq_true_iff.mp hb
    have hR := Aside0.mk (fun (W : World) (hbW : Below w.heap.size w W) => implRun.good A0_0 c0_0 l0_0 A0_1 c0_1 l0_1 a1 W (Kd.C_below hr0_0 hbW) hc0_0 (Kd.C_below hr0_1 hbW) hc0_1 hT hs htr hg)
    clear hr0_0 hc0_0 hr0_1 hc0_1 hT hs hb htr hg
    go_enter Tryd.func22, Tryd.ntmps22
    go_wp2_with (go_at_call 34; refine (hR.out _ HA.out).mono ?_; rintro e w1 ⟨⟨g, A5, c5, g8, c8, g14, c14, g18, c18, n⟩, g5, rfl, e5, en, hp, r5, n5, hb'⟩; dsimp only at e5 en hp r5 n5; subst e5; subst en; have HB := Aside0.mk (below_then HA.out HA.out.size hb'); have PP := Aside0.mk (hp.lower HA.out.size); have R5 := Aside0.mk (Kd.R_lower r5 HA.out.size); obtain ⟨hx0, hx1, hx2, hx3⟩ := hp.cells; dsimp only at hx0 hx1 hx2 hx3; clear hb' hp r5 n5)
    go_ret2
    exact ⟨_, rfl, Kd.R_mono PP.out.r14 (fun _ _ => trivial), HB.out⟩
   ·rw [if_neg hg] at h
    exact absurd h (by simp)
 ·rw [if_neg hs] at h
  exact absurd h (by simp)

/-! ### laws_FnExactStretchChanges: function 6 -/
mutual
def laws_FnExactStretchChanges.j0 : Nat → ByteArray → List Int → Bool → List Int → Bool → Bool → List Int → List Bool → List Int → List Bool → Option (Bool)
  | 0, _, _, _, _, _, _, _, _, _, _ => none
  | k + 1, x1, x6, x7, x9, x10, x47, x182000, x182001, x200000, x200001 => if x47 = true then (some false) else ((laws_toFlight.f k x182000 x182001).bind fun bt205 => ((laws_eqFlight.f k x200000 x200001 bt205.1 bt205.2).bind fun t211 => (if t211 = true then ((laws_markFlight.f k x200000 x200001 1).bind fun bt212 => (if bt212.1 < 0 then (laws_FnExactStretchChanges.j1 k x1 x6 x7 x9 true x182000 x182001) else ((laws_eqIntS.f k x9 x6).bind fun t215 => (if t215 = true then (laws_FnExactStretchChanges.j1 k x1 x6 x7 x9 (x10 != x7) x182000 x182001) else (laws_FnExactStretchChanges.j1 k x1 x6 x7 x9 true x182000 x182001))))) else (some false))))
def laws_FnExactStretchChanges.j1 : Nat → ByteArray → List Int → Bool → List Int → Bool → List Int → List Bool → Option (Bool)
  | 0, _, _, _, _, _, _, _ => none
  | k + 1, x1, x6, x7, x9, x68, x182000, x182001 => if x68 = true then (some false) else ((laws_markIntS.f k x9 1).bind fun bt216 => ((laws_heldIntS.f k bt216.2 1).bind fun t218 => (if t218 < 0 then (some false) else (if t218 = bt216.1 then ((laws_toFlight.f k x182000 x182001).bind fun bt219 => ((impl_StretchChanges.f bt219.1 bt219.2 x1).bind fun bt225 => ((laws_eqIntS.f k bt225.1 x6).bind fun t229 => (if t229 = true then (laws_FnExactStretchChanges.j2 k bt216.2 bt216.1 (bt225.2 != x7)) else (laws_FnExactStretchChanges.j2 k bt216.2 bt216.1 true))))) else (some false)))))
def laws_FnExactStretchChanges.j2 : Nat → List Int → Int → Bool → Option (Bool)
  | 0, _, _, _ => none
  | k + 1, x9, x12, x95 => if x95 = true then (some false) else ((laws_heldIntS.f k x9 1).bind fun t230 => (if t230 < 0 then (some false) else (if t230 = x12 then (some true) else (some false))))
end
def laws_FnExactStretchChanges.f (k : Nat) (l0_0 : List Int) (l0_1 : List Bool) (a1 : ByteArray) : Option (Bool) := if (a1.size : Int) > 1048576 then (some true) else ((laws_szFlight.f l0_0 l0_1 1048576).bind fun t182 => (if t182 < 0 then (some true) else ((laws_toFlight.f k l0_0 l0_1).bind fun bt183 => ((spec_StretchChanges.f k bt183.1 bt183.2 a1).bind fun bt189 => ((laws_toFlight.f k l0_0 l0_1).bind fun bt193 => ((impl_StretchChanges.f bt193.1 bt193.2 a1).bind fun bt200 => ((laws_eqIntS.f k bt200.1 bt189.1).bind fun t204 => (if t204 = true then (laws_FnExactStretchChanges.j0 k a1 bt189.1 bt189.2 bt200.1 bt200.2 (bt200.2 != bt189.2) l0_0 l0_1 bt193.1 bt193.2) else (laws_FnExactStretchChanges.j0 k a1 bt189.1 bt189.2 bt200.1 bt200.2 true l0_0 l0_1 bt193.1 bt193.2)))))))))
theorem laws_FnExactStretchChanges.mono_l : ∀ k, (∀ y0 y1 y2 y3 y4 y5 y6 y7 y8 y9, LeO (laws_FnExactStretchChanges.j0 k y0 y1 y2 y3 y4 y5 y6 y7 y8 y9) (laws_FnExactStretchChanges.j0 (k + 1) y0 y1 y2 y3 y4 y5 y6 y7 y8 y9)) ∧ (∀ y0 y1 y2 y3 y4 y5 y6, LeO (laws_FnExactStretchChanges.j1 k y0 y1 y2 y3 y4 y5 y6) (laws_FnExactStretchChanges.j1 (k + 1) y0 y1 y2 y3 y4 y5 y6)) ∧ (∀ y0 y1 y2, LeO (laws_FnExactStretchChanges.j2 k y0 y1 y2) (laws_FnExactStretchChanges.j2 (k + 1) y0 y1 y2))
 | 0 => ⟨fun _ _ _ _ _ _ _ _ _ _ r h => by simp [laws_FnExactStretchChanges.j0] at h, fun _ _ _ _ _ _ _ r h => by simp [laws_FnExactStretchChanges.j1] at h, fun _ _ _ r h => by simp [laws_FnExactStretchChanges.j2] at h⟩
 | k + 1 => by
  obtain ⟨ih0, ih1, ih2⟩ := laws_FnExactStretchChanges.mono_l k
  refine ⟨?_, ?_, ?_⟩
  ·intro y0 y1 y2 y3 y4 y5 y6 y7 y8 y9
   unfold laws_FnExactStretchChanges.j0
   repeat' first
   | (with_reducible exact ih0 _ _ _ _ _ _ _ _ _ _)
   | (with_reducible exact ih1 _ _ _ _ _ _ _)
   | (with_reducible exact ih2 _ _ _)
   | (with_reducible exact laws_eqFlight.mono _ _ _ _ _)
   | (with_reducible exact laws_eqIntS.mono _ _ _)
   | (with_reducible exact laws_heldIntS.mono _ _ _)
   | (with_reducible exact laws_markFlight.mono _ _ _ _)
   | (with_reducible exact laws_markIntS.mono _ _ _)
   | (with_reducible exact laws_toFlight.mono _ _ _)
   | (with_reducible exact spec_StretchChanges.mono _ _ _ _)
   | (with_reducible exact LeO.refl _)
   | (with_reducible exact LeO.none _)
   | (with_reducible refine LeO.ite ?_ ?_)
   | (with_reducible refine LeO.bind ?_ (fun _ => ?_))
   | exact ih0 _ _ _ _ _ _ _ _ _ _
   | exact ih1 _ _ _ _ _ _ _
   | exact ih2 _ _ _
   | exact laws_eqFlight.mono _ _ _ _ _
   | exact laws_eqIntS.mono _ _ _
   | exact laws_heldIntS.mono _ _ _
   | exact laws_markFlight.mono _ _ _ _
   | exact laws_markIntS.mono _ _ _
   | exact laws_toFlight.mono _ _ _
   | exact spec_StretchChanges.mono _ _ _ _
   | exact LeO.none _
   | refine LeO.ite ?_ ?_
   | refine LeO.bind ?_ (fun _ => ?_)
  ·intro y0 y1 y2 y3 y4 y5 y6
   unfold laws_FnExactStretchChanges.j1
   repeat' first
   | (with_reducible exact ih0 _ _ _ _ _ _ _ _ _ _)
   | (with_reducible exact ih1 _ _ _ _ _ _ _)
   | (with_reducible exact ih2 _ _ _)
   | (with_reducible exact laws_eqFlight.mono _ _ _ _ _)
   | (with_reducible exact laws_eqIntS.mono _ _ _)
   | (with_reducible exact laws_heldIntS.mono _ _ _)
   | (with_reducible exact laws_markFlight.mono _ _ _ _)
   | (with_reducible exact laws_markIntS.mono _ _ _)
   | (with_reducible exact laws_toFlight.mono _ _ _)
   | (with_reducible exact spec_StretchChanges.mono _ _ _ _)
   | (with_reducible exact LeO.refl _)
   | (with_reducible exact LeO.none _)
   | (with_reducible refine LeO.ite ?_ ?_)
   | (with_reducible refine LeO.bind ?_ (fun _ => ?_))
   | exact ih0 _ _ _ _ _ _ _ _ _ _
   | exact ih1 _ _ _ _ _ _ _
   | exact ih2 _ _ _
   | exact laws_eqFlight.mono _ _ _ _ _
   | exact laws_eqIntS.mono _ _ _
   | exact laws_heldIntS.mono _ _ _
   | exact laws_markFlight.mono _ _ _ _
   | exact laws_markIntS.mono _ _ _
   | exact laws_toFlight.mono _ _ _
   | exact spec_StretchChanges.mono _ _ _ _
   | exact LeO.none _
   | refine LeO.ite ?_ ?_
   | refine LeO.bind ?_ (fun _ => ?_)
  ·intro y0 y1 y2
   unfold laws_FnExactStretchChanges.j2
   repeat' first
   | (with_reducible exact ih0 _ _ _ _ _ _ _ _ _ _)
   | (with_reducible exact ih1 _ _ _ _ _ _ _)
   | (with_reducible exact ih2 _ _ _)
   | (with_reducible exact laws_eqFlight.mono _ _ _ _ _)
   | (with_reducible exact laws_eqIntS.mono _ _ _)
   | (with_reducible exact laws_heldIntS.mono _ _ _)
   | (with_reducible exact laws_markFlight.mono _ _ _ _)
   | (with_reducible exact laws_markIntS.mono _ _ _)
   | (with_reducible exact laws_toFlight.mono _ _ _)
   | (with_reducible exact spec_StretchChanges.mono _ _ _ _)
   | (with_reducible exact LeO.refl _)
   | (with_reducible exact LeO.none _)
   | (with_reducible refine LeO.ite ?_ ?_)
   | (with_reducible refine LeO.bind ?_ (fun _ => ?_))
   | exact ih0 _ _ _ _ _ _ _ _ _ _
   | exact ih1 _ _ _ _ _ _ _
   | exact ih2 _ _ _
   | exact laws_eqFlight.mono _ _ _ _ _
   | exact laws_eqIntS.mono _ _ _
   | exact laws_heldIntS.mono _ _ _
   | exact laws_markFlight.mono _ _ _ _
   | exact laws_markIntS.mono _ _ _
   | exact laws_toFlight.mono _ _ _
   | exact spec_StretchChanges.mono _ _ _ _
   | exact LeO.none _
   | refine LeO.ite ?_ ?_
   | refine LeO.bind ?_ (fun _ => ?_)
theorem laws_FnExactStretchChanges.mono : ∀ a0 a1 a2 k, LeO (laws_FnExactStretchChanges.f k a0 a1 a2) (laws_FnExactStretchChanges.f (k + 1) a0 a1 a2) := by
 intro a0 a1 a2 k
 obtain ⟨ih0, ih1, ih2⟩ := laws_FnExactStretchChanges.mono_l k
 unfold laws_FnExactStretchChanges.f
 repeat' first
   | (with_reducible exact ih0 _ _ _ _ _ _ _ _ _ _)
   | (with_reducible exact ih1 _ _ _ _ _ _ _)
   | (with_reducible exact ih2 _ _ _)
   | (with_reducible exact laws_eqFlight.mono _ _ _ _ _)
   | (with_reducible exact laws_eqIntS.mono _ _ _)
   | (with_reducible exact laws_heldIntS.mono _ _ _)
   | (with_reducible exact laws_markFlight.mono _ _ _ _)
   | (with_reducible exact laws_markIntS.mono _ _ _)
   | (with_reducible exact laws_toFlight.mono _ _ _)
   | (with_reducible exact spec_StretchChanges.mono _ _ _ _)
   | (with_reducible exact LeO.refl _)
   | (with_reducible exact LeO.none _)
   | (with_reducible refine LeO.ite ?_ ?_)
   | (with_reducible refine LeO.bind ?_ (fun _ => ?_))
   | exact ih0 _ _ _ _ _ _ _ _ _ _
   | exact ih1 _ _ _ _ _ _ _
   | exact ih2 _ _ _
   | exact laws_eqFlight.mono _ _ _ _ _
   | exact laws_eqIntS.mono _ _ _
   | exact laws_heldIntS.mono _ _ _
   | exact laws_markFlight.mono _ _ _ _
   | exact laws_markIntS.mono _ _ _
   | exact laws_toFlight.mono _ _ _
   | exact spec_StretchChanges.mono _ _ _ _
   | exact LeO.none _
   | refine LeO.ite ?_ ?_
   | refine LeO.bind ?_ (fun _ => ?_)
set_option maxHeartbeats 8000000 in
set_option maxRecDepth 100000 in
theorem laws_FnExactStretchChanges.calls (k : Nat) (A0_0 : Option Addr) (c0_0 : Nat) (l0_0 : List Int) (A0_1 : Option Addr) (c0_1 : Nat) (l0_1 : List Bool) (a1 : ByteArray) (w : World) (hr0_0 : Kd.C (Kd.int .i64) w A0_0 l0_0.length l0_0) (hc0_0 : l0_0.length ≤ c0_0) (hr0_1 : Kd.C Kd.bool w A0_1 l0_1.length l0_1) (hc0_1 : l0_1.length ≤ c0_1) (h : laws_FnExactStretchChanges.f k l0_0 l0_1 a1 = some true) :
  Calls Tryd.prog 6 #[.agg #[.slice A0_0 l0_0.length c0_0, .slice A0_1 l0_1.length c0_1], .string a1] w fun e w' => e = .returned (.bool true) ∧ Below w.heap.size w w' := by
 have hu26 := Tryd.underlying26
 have hu30 := Tryd.underlying30
 have HR0_0 := Aside0.mk hr0_0
 have HC0_0 := Aside0.mk hc0_0
 clear hr0_0 hc0_0
 have HR0_1 := Aside0.mk hr0_1
 have HC0_1 := Aside0.mk hc0_1
 clear hr0_1 hc0_1
 have HB := Aside0.mk (Below.refl w.heap.size w)
 have H : (if (a1.size : Int) > 1048576 then (some true) else ((laws_szFlight.f l0_0 l0_1 1048576).bind fun t182 => (if t182 < 0 then (some true) else ((laws_toFlight.f k l0_0 l0_1).bind fun bt183 => ((spec_StretchChanges.f k bt183.1 bt183.2 a1).bind fun bt189 => ((laws_toFlight.f k l0_0 l0_1).bind fun bt193 => ((impl_StretchChanges.f bt193.1 bt193.2 a1).bind fun bt200 => ((laws_eqIntS.f k bt200.1 bt189.1).bind fun t204 => (if t204 = true then (laws_FnExactStretchChanges.j0 k a1 bt189.1 bt189.2 bt200.1 bt200.2 (bt200.2 != bt189.2) l0_0 l0_1 bt193.1 bt193.2) else (laws_FnExactStretchChanges.j0 k a1 bt189.1 bt189.2 bt200.1 bt200.2 true l0_0 l0_1 bt193.1 bt193.2)))))))))) = some true := h
 clear h
 by_cases c3 : (a1.size : Int) > 1048576
 ·rw [if_pos c3] at H
  have c3b0 : decide (1048576 < (a1.size : Int)) = true := decide_eq_true c3
  have c3b1 : decide (1048576 < a1.size) = true := decide_eq_true (by omega)
  clear c3
  clear H
  go_enter Tryd.func6, Tryd.ntmps6
  go_wp2_with (first | ((with_reducible refine gate_dst (N := 2) rfl ?_); refine box_event ?hg (N := 2) ?hd (cs := #[.slice A0_0 l0_0.length c0_0, .slice A0_1 l0_1.length c0_1]) (t := 26) ?hr ?_; (case hd => rfl); (case hg => rfl); (case hr => first | (go_simp; done) | (go_simp; rfl)); intro gb181 hg w4 hbox hb; have BK181 := Aside0.mk (hbox); have GW181 := xg HB hg; have GE181 := xg HB hg; replace HB := xp HB hb; clear hb hbox hg))
  go_ret
  exact ⟨by first | rfl | (simp [errW_none, errW_some] <;> rfl) | (simp [*, errW_none, errW_some] <;> rfl), by repeat (first | (with_reducible first | exact HB.out | apply below_alloc | apply pw_below_drewN | apply below_drew1 | refine below_set ?_ GE181.out) | exact HB.out)⟩
 ·rw [if_neg c3] at H
  have c3b0 : decide (1048576 < (a1.size : Int)) = false := decide_eq_false c3
  have c3b1 : decide (1048576 < a1.size) = false := decide_eq_false (by omega)
  clear c3
  replace H := Option.bind_eq_some_iff.mp H
  obtain ⟨t182, A50, H⟩ := H
  replace H : (if t182 < 0 then (some true) else ((laws_toFlight.f k l0_0 l0_1).bind fun bt183 => ((spec_StretchChanges.f k bt183.1 bt183.2 a1).bind fun bt189 => ((laws_toFlight.f k l0_0 l0_1).bind fun bt193 => ((impl_StretchChanges.f bt193.1 bt193.2 a1).bind fun bt200 => ((laws_eqIntS.f k bt200.1 bt189.1).bind fun t204 => (if t204 = true then (laws_FnExactStretchChanges.j0 k a1 bt189.1 bt189.2 bt200.1 bt200.2 (bt200.2 != bt189.2) l0_0 l0_1 bt193.1 bt193.2) else (laws_FnExactStretchChanges.j0 k a1 bt189.1 bt189.2 bt200.1 bt200.2 true l0_0 l0_1 bt193.1 bt193.2)))))))) = some true := H
  have A5 := Aside0.mk A50
  clear A50
  by_cases c6 : t182 < 0
  ·rw [if_pos c6] at H
   have c6b0 : decide (t182 < 0) = true := decide_eq_true c6
   clear c6
   clear H
   go_enter Tryd.func6, Tryd.ntmps6
   go_wp2_with (first | ((with_reducible refine gate_dst (N := 2) rfl ?_); refine box_event ?hg (N := 2) ?hd (cs := #[.slice A0_0 l0_0.length c0_0, .slice A0_1 l0_1.length c0_1]) (t := 26) ?hr ?_; (case hd => rfl); (case hg => rfl); (case hr => first | (go_simp; done) | (go_simp; rfl)); intro gb181 hg w7 hbox hb; have BK181 := Aside0.mk (hbox); have GW181 := xg HB hg; have GE181 := xg HB hg; replace HB := xp HB hb; clear hb hbox hg; have hcz8_0 : w7.cell? ⟨gb181, 0, none⟩ = some (.slice A0_0 l0_0.length c0_0) := (blk_cell BK181.out 0).trans rfl; have hcz8_1 : w7.cell? ⟨gb181, 1, none⟩ = some (.slice A0_1 l0_1.length c0_1) := (blk_cell BK181.out 1).trans rfl; have hfz8_0 := blk_frozen BK181.out 0; have hfz8_1 := blk_frozen BK181.out 1) | ((with_reducible refine gate_callee (f := 10) rfl ?_); refine goesL_ (some 21) rfl rfl Tryd.func10 (by kernel_rfl) rfl #[.agg #[.slice A0_0 l0_0.length c0_0, .slice A0_1 l0_1.length c0_1], .int .i64 1048576] rfl (by (try simp only [List.map_toArray, List.map_cons, List.map_nil]); first | done | rfl | (simp only [List.length_drop, List.length_take]; rfl)) ?_; (with_reducible refine (laws_szFlight.calls _ _ l0_0 _ _ l0_1 1048576 t182 _ ?side1 ?side2 ?side3 ?side4 A5.out).mono ?_); (case side1 => exact xd ((Kd.C_below HR0_0.out HB.out))); (case side2 => exact HC0_0.out); (case side3 => exact xd ((Kd.C_below HR0_1.out HB.out))); (case side4 => exact HC0_1.out); rintro e w9 ⟨rfl, hb⟩; refine ⟨_, rfl, ?_⟩; replace BK181 := xk BK181 hb; replace HB := xp HB hb; (try clear hb); (try clear hb2); (try clear hk); (try clear hi)))
   go_ret
   exact ⟨by first | rfl | (simp [errW_none, errW_some] <;> rfl) | (simp [*, errW_none, errW_some] <;> rfl), by repeat (first | (with_reducible first | exact HB.out | apply below_alloc | apply pw_below_drewN | apply below_drew1 | refine below_set ?_ GE181.out) | exact HB.out)⟩
  ·rw [if_neg c6] at H
   have c6b0 : decide (t182 < 0) = false := decide_eq_false c6
   clear c6
   replace H := Option.bind_eq_some_iff.mp H
   obtain ⟨⟨t183, t186⟩, A100, H⟩ := H
   replace H : ((spec_StretchChanges.f k t183 t186 a1).bind fun bt189 => ((laws_toFlight.f k l0_0 l0_1).bind fun bt193 => ((impl_StretchChanges.f bt193.1 bt193.2 a1).bind fun bt200 => ((laws_eqIntS.f k bt200.1 bt189.1).bind fun t204 => (if t204 = true then (laws_FnExactStretchChanges.j0 k a1 bt189.1 bt189.2 bt200.1 bt200.2 (bt200.2 != bt189.2) l0_0 l0_1 bt193.1 bt193.2) else (laws_FnExactStretchChanges.j0 k a1 bt189.1 bt189.2 bt200.1 bt200.2 true l0_0 l0_1 bt193.1 bt193.2)))))) = some true := H
   have A10 := Aside0.mk A100
   clear A100
   replace H := Option.bind_eq_some_iff.mp H
   obtain ⟨⟨t189, t192⟩, A110, H⟩ := H
   replace H : ((laws_toFlight.f k l0_0 l0_1).bind fun bt193 => ((impl_StretchChanges.f bt193.1 bt193.2 a1).bind fun bt200 => ((laws_eqIntS.f k bt200.1 t189).bind fun t204 => (if t204 = true then (laws_FnExactStretchChanges.j0 k a1 t189 t192 bt200.1 bt200.2 (bt200.2 != t192) l0_0 l0_1 bt193.1 bt193.2) else (laws_FnExactStretchChanges.j0 k a1 t189 t192 bt200.1 bt200.2 true l0_0 l0_1 bt193.1 bt193.2))))) = some true := H
   have A11 := Aside0.mk A110
   clear A110
   replace H := Option.bind_eq_some_iff.mp H
   obtain ⟨⟨t193, t196⟩, A120, H⟩ := H
   replace H : ((impl_StretchChanges.f t193 t196 a1).bind fun bt200 => ((laws_eqIntS.f k bt200.1 t189).bind fun t204 => (if t204 = true then (laws_FnExactStretchChanges.j0 k a1 t189 t192 bt200.1 bt200.2 (bt200.2 != t192) l0_0 l0_1 t193 t196) else (laws_FnExactStretchChanges.j0 k a1 t189 t192 bt200.1 bt200.2 true l0_0 l0_1 t193 t196)))) = some true := H
   have A12 := Aside0.mk A120
   clear A120
   replace H := Option.bind_eq_some_iff.mp H
   obtain ⟨⟨t200, t203⟩, A130, H⟩ := H
   replace H : ((laws_eqIntS.f k t200 t189).bind fun t204 => (if t204 = true then (laws_FnExactStretchChanges.j0 k a1 t189 t192 t200 t203 (t203 != t192) l0_0 l0_1 t193 t196) else (laws_FnExactStretchChanges.j0 k a1 t189 t192 t200 t203 true l0_0 l0_1 t193 t196))) = some true := H
   have A13 := Aside0.mk A130
   clear A130
   have HC14 := Aside0.mk H
   clear H
   go_enter Tryd.func6, Tryd.ntmps6
   go_upto_region 10 with (first | ((with_reducible refine gate_dst (N := 2) rfl ?_); refine box_event ?hg (N := 2) ?hd (cs := #[.slice A0_0 l0_0.length c0_0, .slice A0_1 l0_1.length c0_1]) (t := 26) ?hr ?_; (case hd => rfl); (case hg => rfl); (case hr => first | (go_simp; done) | (go_simp; rfl)); intro gb181 hg w15 hbox hb; have BK181 := Aside0.mk (hbox); have GW181 := xg HB hg; have GE181 := xg HB hg; replace HB := xp HB hb; clear hb hbox hg; have hcz16_0 : w15.cell? ⟨gb181, 0, none⟩ = some (.slice A0_0 l0_0.length c0_0) := (blk_cell BK181.out 0).trans rfl; have hcz16_1 : w15.cell? ⟨gb181, 1, none⟩ = some (.slice A0_1 l0_1.length c0_1) := (blk_cell BK181.out 1).trans rfl; have hfz16_0 := blk_frozen BK181.out 0; have hfz16_1 := blk_frozen BK181.out 1) | ((with_reducible refine gate_callee (f := 10) rfl ?_); refine goesL_ (some 21) rfl rfl Tryd.func10 (by kernel_rfl) rfl #[.agg #[.slice A0_0 l0_0.length c0_0, .slice A0_1 l0_1.length c0_1], .int .i64 1048576] rfl (by (try simp only [List.map_toArray, List.map_cons, List.map_nil]); first | done | rfl | (simp only [List.length_drop, List.length_take]; rfl)) ?_; (with_reducible refine (laws_szFlight.calls _ _ l0_0 _ _ l0_1 1048576 t182 _ ?side1 ?side2 ?side3 ?side4 A5.out).mono ?_); (case side1 => exact xd ((Kd.C_below HR0_0.out HB.out))); (case side2 => exact HC0_0.out); (case side3 => exact xd ((Kd.C_below HR0_1.out HB.out))); (case side4 => exact HC0_1.out); rintro e w17 ⟨rfl, hb⟩; refine ⟨_, rfl, ?_⟩; replace BK181 := xk BK181 hb; replace HB := xp HB hb; (try clear hb); (try clear hb2); (try clear hk); (try clear hi); have hcz18_0 : w17.cell? ⟨gb181, 0, none⟩ = some (.slice A0_0 l0_0.length c0_0) := (blk_cell BK181.out 0).trans rfl; have hcz18_1 : w17.cell? ⟨gb181, 1, none⟩ = some (.slice A0_1 l0_1.length c0_1) := (blk_cell BK181.out 1).trans rfl; have hfz18_0 := blk_frozen BK181.out 0; have hfz18_1 := blk_frozen BK181.out 1) | ((with_reducible refine gate_callee (f := 12) rfl ?_); refine goesL_ (some 26) rfl rfl Tryd.func12 (by kernel_rfl) rfl #[.agg #[.slice A0_0 l0_0.length c0_0, .slice A0_1 l0_1.length c0_1]] rfl (by (try simp only [List.map_toArray, List.map_cons, List.map_nil]); first | done | rfl | (simp only [List.length_drop, List.length_take]; rfl)) ?_; (with_reducible refine (laws_toFlight.calls k _ _ l0_0 _ _ l0_1 t183 t186 _ ?side1 ?side2 ?side3 ?side4 A10.out).mono ?_); (case side1 => exact xd ((Kd.C_below HR0_0.out HB.out))); (case side2 => exact HC0_0.out); (case side3 => exact xd ((Kd.C_below HR0_1.out HB.out))); (case side4 => exact HC0_1.out); rintro e w19 ⟨v184, v187, rfl, ho0, ho1, hb⟩; refine ⟨_, rfl, ?_⟩; have HO185 := Aside0.mk (Kd.R_lower ho0 (below_size (xs HB.out))); have HO188 := Aside0.mk (Kd.R_lower ho1 (below_size (xs HB.out))); replace BK181 := xk BK181 hb; replace HB := xp HB hb; (try clear hb); (try clear hb2); (try clear hk); (try clear hi); (try clear ho0); (try clear ho1); obtain ⟨Ao20, co20, eo20⟩ := Kd.R_slice HO185.out; subst eo20; obtain ⟨Ao21, co21, eo21⟩ := Kd.R_slice HO188.out; subst eo21) | ((with_reducible refine gate_callee (f := 21) rfl ?_); refine goesL_ (some 28) rfl rfl Tryd.func21 (by kernel_rfl) rfl #[.agg #[.slice Ao20 t183.length co20, .slice Ao21 t186.length co21], .string a1] rfl (by (try simp only [List.map_toArray, List.map_cons, List.map_nil]); first | done | rfl | (simp only [List.length_drop, List.length_take]; rfl)) ?_; (with_reducible refine (spec_StretchChanges.calls k _ _ t183 _ _ t186 a1 t189 t192 _ ?side1 ?side2 ?side3 ?side4 A11.out).mono ?_); (case side1 => exact xd ((Kd.R_reads' HO185.out).2.2)); (case side2 => exact (Kd.R_reads' HO185.out).2.1); (case side3 => exact xd ((Kd.R_reads' HO188.out).2.2)); (case side4 => exact (Kd.R_reads' HO188.out).2.1); rintro e w22 ⟨v190, rfl, ho0, hb⟩; refine ⟨_, rfl, ?_⟩; replace HO188 := xq HO188 hb; have HO191 := Aside0.mk (Kd.R_lower (Kd.R_new' ho0 (Kd.R_lt (xr HO185.out))) (below_size (xs HB.out))); replace HO185 := Aside0.mk (Kd.R_elder' (xr HO185.out) (Kd.R_base ho0) hb); replace BK181 := xk BK181 hb; replace HB := xp HB hb; (try clear hb); (try clear hb2); (try clear hk); (try clear hi); (try clear ho0); have hcz23_0 : w22.cell? ⟨gb181, 0, none⟩ = some (.slice A0_0 l0_0.length c0_0) := (blk_cell BK181.out 0).trans rfl; have hcz23_1 : w22.cell? ⟨gb181, 1, none⟩ = some (.slice A0_1 l0_1.length c0_1) := (blk_cell BK181.out 1).trans rfl; have hfz23_0 := blk_frozen BK181.out 0; have hfz23_1 := blk_frozen BK181.out 1) | ((with_reducible refine gate_callee (f := 12) rfl ?_); refine goesL_ (some 32) rfl rfl Tryd.func12 (by kernel_rfl) rfl #[.agg #[.slice A0_0 l0_0.length c0_0, .slice A0_1 l0_1.length c0_1]] rfl (by (try simp only [List.map_toArray, List.map_cons, List.map_nil]); first | done | rfl | (simp only [List.length_drop, List.length_take]; rfl)) ?_; (with_reducible refine (laws_toFlight.calls k _ _ l0_0 _ _ l0_1 t193 t196 _ ?side1 ?side2 ?side3 ?side4 A12.out).mono ?_); (case side1 => exact xd ((Kd.C_below HR0_0.out HB.out))); (case side2 => exact HC0_0.out); (case side3 => exact xd ((Kd.C_below HR0_1.out HB.out))); (case side4 => exact HC0_1.out); rintro e w24 ⟨v194, v197, rfl, ho0, ho1, hb⟩; refine ⟨_, rfl, ?_⟩; have HO195 := Aside0.mk (Kd.R_lower (Kd.R_new' (Kd.R_new' ho0 (Kd.R_lt (xr HO185.out))) (Kd.R_lt (xr HO191.out))) (below_size (xs HB.out))); replace HO185 := Aside0.mk (Kd.R_elder' (xr HO185.out) (Kd.R_base ho0) hb); replace HO191 := Aside0.mk (Kd.R_elder' (xr HO191.out) (Kd.R_base ho0) hb); have HO198 := Aside0.mk (Kd.R_lower (Kd.R_new' ho1 (Kd.R_lt (xr HO188.out))) (below_size (xs HB.out))); replace HO188 := Aside0.mk (Kd.R_elder' (xr HO188.out) (Kd.R_base ho1) hb); replace BK181 := xk BK181 hb; replace HB := xp HB hb; (try clear hb); (try clear hb2); (try clear hk); (try clear hi); (try clear ho0); (try clear ho1)) | ((with_reducible refine gate_dst (N := 8) rfl ?_); refine box_event ?hg (N := 8) ?hd (cs := #[.slice none 0 0, .slice none 0 0]) (t := 30) ?hr ?_; (case hd => rfl); (case hg => rfl); (case hr => first | (go_simp; done) | (go_simp; rfl)); intro gb199 hg w25 hbox hb; replace HO185 := xq HO185 hb; replace HO188 := xq HO188 hb; replace HO191 := xq HO191 hb; replace HO195 := xq HO195 hb; replace HO198 := xq HO198 hb; have BK199 := Aside0.mk (hbox); have GW199 := xg HB hg; have GE199 := xg HB hg; replace HB := xp HB hb; have NB181_199 := xl BK181 hg; have NB199_181 := xh BK181 hg; replace BK181 := xk BK181 hb; clear hb hbox hg; obtain ⟨Ao26, co26, eo26⟩ := Kd.R_slice HO195.out; subst eo26; have hnb27 := NB199_181.out; have hnc27 := NB181_199.out; have hcz28_0 : w25.cell? ⟨gb199, 0, none⟩ = some (.slice none 0 0) := (blk_cell BK199.out 0).trans rfl; have hcz28_1 : w25.cell? ⟨gb199, 1, none⟩ = some (.slice none 0 0) := (blk_cell BK199.out 1).trans rfl; have hfz28_0 := blk_frozen BK199.out 0; have hfz28_1 := blk_frozen BK199.out 1; obtain ⟨Ao29, co29, eo29⟩ := Kd.R_slice HO198.out; subst eo29) | ((with_reducible refine gate_callee (f := 22) rfl ?_); refine goesL_ (some 36) rfl rfl Tryd.func22 (by kernel_rfl) rfl #[.agg #[.slice Ao26 t193.length co26, .slice Ao29 t196.length co29], .string a1] rfl (by (try simp only [List.map_toArray, List.map_cons, List.map_nil]); first | done | rfl | (simp only [List.length_drop, List.length_take]; rfl)) ?_; (with_reducible refine (impl_StretchChanges.calls _ _ t193 _ _ t196 a1 t200 t203 _ ?side1 ?side2 ?side3 ?side4 A13.out).mono ?_); (case side1 => refine (Kd.R_reads' (e := 3) (base := w.heap.size) (ok := fun k_ => ((True ∧ nS k_ Ao20 t183.length co20) ∧ nV k_ v190)) (n := t193.length) (c := co26) ?_).2.2; exact (by (with_reducible repeat (first | apply Kd.R_alloc | apply Kd.R_drewN | apply Kd.R_drew)); exact (Kd.R_mono (Kd.R_far (p := ⟨gb199, 1, none⟩) (Kd.R_far (p := ⟨gb199, 0, none⟩) (Kd.R_types HO195.out BK199.out (by decide)) (fun _ hk => hk.2) (.slice Ao26 t193.length co26)) (fun _ hk => hk.2) (.slice Ao29 t196.length co29)) (fun _ h_ => h_.1)))); (case side2 => exact (Kd.R_reads' HO195.out).2.1); (case side3 => refine (Kd.R_reads' (e := 4) (base := w.heap.size) (ok := fun k_ => (True ∧ nS k_ Ao21 t186.length co21)) (n := t196.length) (c := co29) ?_).2.2; exact (by (with_reducible repeat (first | apply Kd.R_alloc | apply Kd.R_drewN | apply Kd.R_drew)); exact (Kd.R_mono (Kd.R_far (p := ⟨gb199, 1, none⟩) (Kd.R_far (p := ⟨gb199, 0, none⟩) (Kd.R_types HO198.out BK199.out (by decide)) (fun _ hk => hk.2) (.slice Ao26 t193.length co26)) (fun _ hk => hk.2) (.slice Ao29 t196.length co29)) (fun _ h_ => h_.1)))); (case side4 => exact (Kd.R_reads' HO198.out).2.1); rintro e w30 ⟨v201, rfl, ho0, hb⟩; refine ⟨_, rfl, ?_⟩; replace HO188 := Aside0.mk (Kd.R_below (by (with_reducible repeat (first | apply Kd.R_alloc | apply Kd.R_drewN | apply Kd.R_drew)); exact (Kd.R_mono (Kd.R_far (p := ⟨gb199, 1, none⟩) (Kd.R_far (p := ⟨gb199, 0, none⟩) (Kd.R_types HO188.out BK199.out (by decide)) (fun _ hk => hk.2) (.slice Ao26 t193.length co26)) (fun _ hk => hk.2) (.slice Ao29 t196.length co29)) (fun _ h_ => h_.1))) hb); replace HO198 := Aside0.mk (Kd.R_below (by (with_reducible repeat (first | apply Kd.R_alloc | apply Kd.R_drewN | apply Kd.R_drew)); exact (Kd.R_mono (Kd.R_far (p := ⟨gb199, 1, none⟩) (Kd.R_far (p := ⟨gb199, 0, none⟩) (Kd.R_types HO198.out BK199.out (by decide)) (fun _ hk => hk.2) (.slice Ao26 t193.length co26)) (fun _ hk => hk.2) (.slice Ao29 t196.length co29)) (fun _ h_ => h_.1))) hb); have HO202 := Aside0.mk (Kd.R_lower (Kd.R_new' (Kd.R_new' (Kd.R_new' ho0 (Kd.R_lt (by (with_reducible repeat (first | apply Kd.R_alloc | apply Kd.R_drewN | apply Kd.R_drew)); exact (Kd.R_mono (Kd.R_far (p := ⟨gb199, 1, none⟩) (Kd.R_far (p := ⟨gb199, 0, none⟩) (Kd.R_types HO185.out BK199.out (by decide)) (fun _ hk => hk.2) (.slice Ao26 t193.length co26)) (fun _ hk => hk.2) (.slice Ao29 t196.length co29)) (fun _ h_ => h_.1))))) (Kd.R_lt (by (with_reducible repeat (first | apply Kd.R_alloc | apply Kd.R_drewN | apply Kd.R_drew)); exact (Kd.R_mono (Kd.R_far (p := ⟨gb199, 1, none⟩) (Kd.R_far (p := ⟨gb199, 0, none⟩) (Kd.R_types HO191.out BK199.out (by decide)) (fun _ hk => hk.2) (.slice Ao26 t193.length co26)) (fun _ hk => hk.2) (.slice Ao29 t196.length co29)) (fun _ h_ => h_.1))))) (Kd.R_lt (by (with_reducible repeat (first | apply Kd.R_alloc | apply Kd.R_drewN | apply Kd.R_drew)); exact (Kd.R_mono (Kd.R_far (p := ⟨gb199, 1, none⟩) (Kd.R_far (p := ⟨gb199, 0, none⟩) (Kd.R_types HO195.out BK199.out (by decide)) (fun _ hk => hk.2) (.slice Ao26 t193.length co26)) (fun _ hk => hk.2) (.slice Ao29 t196.length co29)) (fun _ h_ => h_.1))))) (below_size (xs HB.out))); replace HO185 := Aside0.mk (Kd.R_elder' (by (with_reducible repeat (first | apply Kd.R_alloc | apply Kd.R_drewN | apply Kd.R_drew)); exact (Kd.R_mono (Kd.R_far (p := ⟨gb199, 1, none⟩) (Kd.R_far (p := ⟨gb199, 0, none⟩) (Kd.R_types HO185.out BK199.out (by decide)) (fun _ hk => hk.2) (.slice Ao26 t193.length co26)) (fun _ hk => hk.2) (.slice Ao29 t196.length co29)) (fun _ h_ => h_.1))) (Kd.R_base ho0) hb); replace HO191 := Aside0.mk (Kd.R_elder' (by (with_reducible repeat (first | apply Kd.R_alloc | apply Kd.R_drewN | apply Kd.R_drew)); exact (Kd.R_mono (Kd.R_far (p := ⟨gb199, 1, none⟩) (Kd.R_far (p := ⟨gb199, 0, none⟩) (Kd.R_types HO191.out BK199.out (by decide)) (fun _ hk => hk.2) (.slice Ao26 t193.length co26)) (fun _ hk => hk.2) (.slice Ao29 t196.length co29)) (fun _ h_ => h_.1))) (Kd.R_base ho0) hb); replace HO195 := Aside0.mk (Kd.R_elder' (by (with_reducible repeat (first | apply Kd.R_alloc | apply Kd.R_drewN | apply Kd.R_drew)); exact (Kd.R_mono (Kd.R_far (p := ⟨gb199, 1, none⟩) (Kd.R_far (p := ⟨gb199, 0, none⟩) (Kd.R_types HO195.out BK199.out (by decide)) (fun _ hk => hk.2) (.slice Ao26 t193.length co26)) (fun _ hk => hk.2) (.slice Ao29 t196.length co29)) (fun _ h_ => h_.1))) (Kd.R_base ho0) hb); replace BK181 := Aside0.mk (blk_below (g := gb181) (o := .cells #[.slice A0_0 l0_0.length c0_0, .slice A0_1 l0_1.length c0_1] 26 (0, 0)) (xff NB181_199.out NB181_199.out BK181.out) hb); replace BK199 := Aside0.mk (blk_below (g := gb199) (o := .cells #[.slice Ao26 t193.length co26, .slice Ao29 t196.length co29] 30 (0, 0)) (by (with_reducible repeat (first | refine blk_drewN ?_ _ | refine blk_drew ?_ | refine blk_alloc ?_ _)); refine blk_put (cs := #[.slice Ao26 t193.length co26, .slice none 0 0]) ?_ 1 _ rfl; (with_reducible repeat (first | refine blk_drewN ?_ _ | refine blk_drew ?_ | refine blk_alloc ?_ _)); refine blk_put (cs := #[.slice none 0 0, .slice none 0 0]) ?_ 0 _ rfl; (with_reducible repeat (first | refine blk_drewN ?_ _ | refine blk_drew ?_ | refine blk_alloc ?_ _)); exact BK199.out) hb); replace HB := xp HB hb; (try clear hb); (try clear hb2); (try clear hk); (try clear hi); (try clear ho0)))
   (try simp only [Act.put, List.setIfInBounds_toArray, List.set_cons_zero, List.set_cons_succ])
   go_cut [47] (fun v47 wc => ∃ (kq : Nat) (x47_13 : Bool), v47 = .bool x47_13 ∧ Aside0 (laws_FnExactStretchChanges.j0 kq a1 t189 t192 t200 t203 x47_13 l0_0 l0_1 t193 t196 = some true) ∧ Aside0 (kq ≤ k) ∧ Aside0 (Kd.R (Kd.int .i64) 3 wc w.heap.size (fun k_ => nV k_ v201 ∧ nS k_ Ao26 t193.length co26) v190 t189) ∧ Aside0 (Kd.R (Kd.int .i64) 3 wc w.heap.size (fun k_ => nV k_ v190 ∧ nS k_ Ao26 t193.length co26) v201 t200) ∧ Aside0 (Kd.R (Kd.int .i64) 3 wc w.heap.size (fun k_ => nV k_ v190 ∧ nV k_ v201) (.slice Ao26 t193.length co26) t193) ∧ Aside0 (Kd.R Kd.bool 4 wc w.heap.size (fun _ => True) (.slice Ao29 t196.length co29) t196) ∧ Aside0 (wc.heap[gb181]? = some (.cells #[(.slice A0_0 l0_0.length c0_0), (.slice A0_1 l0_1.length c0_1)] 26 (0, 0))) ∧ Aside0 (wc.heap[gb199]? = some (.cells #[(.slice Ao26 t193.length co26), (.slice Ao29 t196.length co29)] 30 (0, 0))) ∧ Aside0 (Below w.heap.size w wc))
   case first =>
    have H := HC14.out
    clear HC14
    replace H := Option.bind_eq_some_iff.mp H
    obtain ⟨t204, A310, H⟩ := H
    replace H : (if t204 = true then (laws_FnExactStretchChanges.j0 k a1 t189 t192 t200 t203 (t203 != t192) l0_0 l0_1 t193 t196) else (laws_FnExactStretchChanges.j0 k a1 t189 t192 t200 t203 true l0_0 l0_1 t193 t196)) = some true := H
    have A31 := Aside0.mk A310
    clear A310
    by_cases c32 : t204 = true
    ·subst c32
     have H1 : (laws_FnExactStretchChanges.j0 k a1 t189 t192 t200 t203 (t203 != t192) l0_0 l0_1 t193 t196) = some true := by first | (rw [if_pos rfl] at H; exact H) | rfl
     clear H
     have H := H1
     clear H1
     have H' := Aside0.mk H
     clear H
     obtain ⟨Ao33, co33, eo33⟩ := Kd.R_slice HO202.out
     subst eo33
     obtain ⟨Ao34, co34, eo34⟩ := Kd.R_slice HO191.out
     subst eo34
     go_wp2_with (first | ((with_reducible refine gate_callee (f := 17) rfl ?_); refine goesL_ (some 41) rfl rfl Tryd.func17 (by kernel_rfl) rfl #[.slice Ao33 t200.length co33, .slice Ao34 t189.length co34] rfl (by (try simp only [List.map_toArray, List.map_cons, List.map_nil]); first | done | rfl | (simp only [List.length_drop, List.length_take]; rfl)) ?_; (with_reducible refine (laws_eqIntS.calls k _ _ t200 _ _ t189 true _ ?side1 ?side2 ?side3 ?side4 A31.out).mono ?_); (case side1 => exact xd ((Kd.R_reads' HO202.out).2.2)); (case side2 => exact (Kd.R_reads' HO202.out).2.1); (case side3 => exact xd ((Kd.R_reads' HO191.out).2.2)); (case side4 => exact (Kd.R_reads' HO191.out).2.1); rintro e w' ⟨rfl, ⟨nd, rfl⟩⟩; refine ⟨_, rfl, ?_⟩))
     go_meet
     case rel => exact ⟨_, ((t203 != t192)), (by first | rfl | (simp; done) | (simp [*]; done)), H', ⟨by first | omega | exact Nat.le_refl _⟩, ⟨xm HO191 (fun _ hk => ⟨hk.2, hk.1.2⟩)⟩, ⟨xm HO202 (fun _ hk => ⟨hk.1.2, hk.2⟩)⟩, ⟨xm HO195 (fun _ hk => ⟨hk.1.2, hk.2⟩)⟩, ⟨xm HO198 (fun _ hk => trivial)⟩, ⟨xb BK181.out⟩, ⟨xb BK199.out⟩, ⟨xs HB.out⟩⟩
    ·replace c32 := Bool.eq_false_iff.mpr c32
     subst c32
     have H1 : (laws_FnExactStretchChanges.j0 k a1 t189 t192 t200 t203 true l0_0 l0_1 t193 t196) = some true := by first | (rw [if_neg (show ¬ (false = true) by decide)] at H; exact H) | rfl
     clear H
     have H := H1
     clear H1
     have H' := Aside0.mk H
     clear H
     obtain ⟨Ao35, co35, eo35⟩ := Kd.R_slice HO202.out
     subst eo35
     obtain ⟨Ao36, co36, eo36⟩ := Kd.R_slice HO191.out
     subst eo36
     go_wp2_with (first | ((with_reducible refine gate_callee (f := 17) rfl ?_); refine goesL_ (some 41) rfl rfl Tryd.func17 (by kernel_rfl) rfl #[.slice Ao35 t200.length co35, .slice Ao36 t189.length co36] rfl (by (try simp only [List.map_toArray, List.map_cons, List.map_nil]); first | done | rfl | (simp only [List.length_drop, List.length_take]; rfl)) ?_; (with_reducible refine (laws_eqIntS.calls k _ _ t200 _ _ t189 false _ ?side1 ?side2 ?side3 ?side4 A31.out).mono ?_); (case side1 => exact xd ((Kd.R_reads' HO202.out).2.2)); (case side2 => exact (Kd.R_reads' HO202.out).2.1); (case side3 => exact xd ((Kd.R_reads' HO191.out).2.2)); (case side4 => exact (Kd.R_reads' HO191.out).2.1); rintro e w' ⟨rfl, ⟨nd, rfl⟩⟩; refine ⟨_, rfl, ?_⟩))
     go_meet
     case rel => exact ⟨_, (true), (by first | rfl | (simp; done) | (simp [*]; done)), H', ⟨by first | omega | exact Nat.le_refl _⟩, ⟨xm HO191 (fun _ hk => ⟨hk.2, hk.1.2⟩)⟩, ⟨xm HO202 (fun _ hk => ⟨hk.1.2, hk.2⟩)⟩, ⟨xm HO195 (fun _ hk => ⟨hk.1.2, hk.2⟩)⟩, ⟨xm HO198 (fun _ hk => trivial)⟩, ⟨xb BK181.out⟩, ⟨xb BK199.out⟩, ⟨xs HB.out⟩⟩
   case rest =>
    clear HC14
    try clear c1
    try clear c2
    try clear p2
    try clear c3
    try clear c3b0
    try clear c3b1
    try clear c6
    try clear c6b0
    try clear c10
    try clear c12
    try clear c17
    try clear c21
    try clear c22
    try clear c27
    try clear c32
    try clear hcz16_0
    try clear hcz16_1
    try clear hcz18_0
    try clear hcz18_1
    try clear hcz23_0
    try clear hcz23_1
    try clear hcz28_0
    try clear hcz28_1
    try clear hcz8_0
    try clear hcz8_1
    try clear hfz16_0
    try clear hfz16_1
    try clear hfz18_0
    try clear hfz18_1
    try clear hfz23_0
    try clear hfz23_1
    try clear hfz28_0
    try clear hfz28_1
    try clear hfz8_0
    try clear hfz8_1
    obtain ⟨kq, x47_13, rfl, HA, HJ13, HO_6, HO_9, HO_200000, HO_200001, BK181, BK199, HB⟩ := hcut
    cases kq with
    | zero => exact absurd HA.out (by simp [laws_FnExactStretchChanges.j0])
    | succ kj13 =>
     have H := HA.out
     clear HA
     simp only [laws_FnExactStretchChanges.j0] at H
     by_cases c37 : x47_13 = true
     ·subst c37
      have H1 : (some false) = some true := by first | (rw [if_pos rfl] at H; exact H) | rfl
      clear H
      have H := H1
      clear H1
      exact absurd H (by simp)
     ·replace c37 := Bool.eq_false_iff.mpr c37
      subst c37
      have H1 : ((laws_toFlight.f kj13 l0_0 l0_1).bind fun bt205 => ((laws_eqFlight.f kj13 t193 t196 bt205.1 bt205.2).bind fun t211 => (if t211 = true then ((laws_markFlight.f kj13 t193 t196 1).bind fun bt212 => (if bt212.1 < 0 then (laws_FnExactStretchChanges.j1 kj13 a1 t189 t192 t200 true l0_0 l0_1) else ((laws_eqIntS.f kj13 t200 t189).bind fun t215 => (if t215 = true then (laws_FnExactStretchChanges.j1 kj13 a1 t189 t192 t200 (t203 != t192) l0_0 l0_1) else (laws_FnExactStretchChanges.j1 kj13 a1 t189 t192 t200 true l0_0 l0_1))))) else (some false)))) = some true := by first | (rw [if_neg (show ¬ (false = true) by decide)] at H; exact H) | rfl
      clear H
      have H := H1
      clear H1
      replace H := Option.bind_eq_some_iff.mp H
      obtain ⟨⟨t205, t208⟩, A380, H⟩ := H
      replace H : ((laws_eqFlight.f kj13 t193 t196 t205 t208).bind fun t211 => (if t211 = true then ((laws_markFlight.f kj13 t193 t196 1).bind fun bt212 => (if bt212.1 < 0 then (laws_FnExactStretchChanges.j1 kj13 a1 t189 t192 t200 true l0_0 l0_1) else ((laws_eqIntS.f kj13 t200 t189).bind fun t215 => (if t215 = true then (laws_FnExactStretchChanges.j1 kj13 a1 t189 t192 t200 (t203 != t192) l0_0 l0_1) else (laws_FnExactStretchChanges.j1 kj13 a1 t189 t192 t200 true l0_0 l0_1))))) else (some false))) = some true := H
      have A38 := Aside0.mk A380
      clear A380
      replace H := Option.bind_eq_some_iff.mp H
      obtain ⟨t211, A390, H⟩ := H
      replace H : (if t211 = true then ((laws_markFlight.f kj13 t193 t196 1).bind fun bt212 => (if bt212.1 < 0 then (laws_FnExactStretchChanges.j1 kj13 a1 t189 t192 t200 true l0_0 l0_1) else ((laws_eqIntS.f kj13 t200 t189).bind fun t215 => (if t215 = true then (laws_FnExactStretchChanges.j1 kj13 a1 t189 t192 t200 (t203 != t192) l0_0 l0_1) else (laws_FnExactStretchChanges.j1 kj13 a1 t189 t192 t200 true l0_0 l0_1))))) else (some false)) = some true := H
      have A39 := Aside0.mk A390
      clear A390
      by_cases c40 : t211 = true
      ·subst c40
       have H1 : ((laws_markFlight.f kj13 t193 t196 1).bind fun bt212 => (if bt212.1 < 0 then (laws_FnExactStretchChanges.j1 kj13 a1 t189 t192 t200 true l0_0 l0_1) else ((laws_eqIntS.f kj13 t200 t189).bind fun t215 => (if t215 = true then (laws_FnExactStretchChanges.j1 kj13 a1 t189 t192 t200 (t203 != t192) l0_0 l0_1) else (laws_FnExactStretchChanges.j1 kj13 a1 t189 t192 t200 true l0_0 l0_1))))) = some true := by first | (rw [if_pos rfl] at H; exact H) | rfl
       clear H
       have H := H1
       clear H1
       replace H := Option.bind_eq_some_iff.mp H
       obtain ⟨⟨t212, t213, t214⟩, A410, H⟩ := H
       replace H : (if t212 < 0 then (laws_FnExactStretchChanges.j1 kj13 a1 t189 t192 t200 true l0_0 l0_1) else ((laws_eqIntS.f kj13 t200 t189).bind fun t215 => (if t215 = true then (laws_FnExactStretchChanges.j1 kj13 a1 t189 t192 t200 (t203 != t192) l0_0 l0_1) else (laws_FnExactStretchChanges.j1 kj13 a1 t189 t192 t200 true l0_0 l0_1)))) = some true := H
       have A41 := Aside0.mk A410
       clear A410
       have HC42 := Aside0.mk H
       clear H
       try go_wp2
       replace HO_6 := xw HO_6
       replace HO_9 := xw HO_9
       replace HO_200000 := xw HO_200000
       replace HO_200001 := xw HO_200001
       replace BK181 := xv BK181
       replace BK199 := xv BK199
       replace HB := Aside0.mk (below_drew1 HB.out)
       refine start_ (n := 5) (S := fun w' => w'.cell? ⟨gb199, 0, none⟩ = some (.slice Ao26 t193.length co26) ∧ w'.cell? ⟨gb199, 1, none⟩ = some (.slice Ao29 t196.length co29) ∧ w'.cell? ⟨gb181, 0, none⟩ = some (.slice A0_0 l0_0.length c0_0) ∧ w'.cell? ⟨gb181, 1, none⟩ = some (.slice A0_1 l0_1.length c0_1)) (ds := []) #[false, false, false, false, false] (by kernel_rfl) rfl rfl ⟨(blk_cell BK199.out 0).trans rfl, (blk_cell BK199.out 1).trans rfl, (blk_cell BK181.out 0).trans rfl, (blk_cell BK181.out 1).trans rfl⟩ (fun hHeld => ?_)
       generalize wc.drew = w43 at HO_6 HO_9 HO_200000 HO_200001 BK181 BK199 HB hHeld ⊢
       refine take_ (i := 0) (N := some 48) (v := ?_) (a' := ?_) #[true, false, false, false, false] rfl rfl (by kernel_rfl) (fun _ _ _ h => h) (Or.inl ⟨by rfl, ?_⟩) hHeld ?_ ?_
       rotate_left
       ·rintro w' ⟨s0, s1, s2, s3⟩
        go_simp
        with_reducible rfl
       rotate_left
       ·simp only [Act.put, List.setIfInBounds_toArray, List.set_cons_zero, List.set_cons_succ, i64_w, i32_w]
        rfl
       refine take_ (i := 1) (N := some 49) (v := ?_) (a' := ?_) #[true, true, false, false, false] rfl rfl (by kernel_rfl) (fun _ _ _ h => h) (Or.inl ⟨by rfl, ?_⟩) hHeld ?_ ?_
       rotate_left
       ·rintro w' ⟨s0, s1, s2, s3⟩
        go_simp
        with_reducible rfl
       rotate_left
       ·simp only [Act.put, List.setIfInBounds_toArray, List.set_cons_zero, List.set_cons_succ, i64_w, i32_w]
        rfl
       refine one_ (i := 2) (N := some 50) #[true, true, true, false, false] rfl rfl (by kernel_rfl) (by decide) (fun K hK => ?_)
       refine goes_ Tryd.func12 (by kernel_rfl) rfl #[.agg #[.slice A0_0 l0_0.length c0_0, .slice A0_1 l0_1.length c0_1]] (by rfl) rfl rfl (by (try simp only [List.map_toArray, List.map_cons, List.map_nil]); first | done | rfl | (simp only [List.length_drop, List.length_take]; rfl)) ?_
       with_reducible refine (laws_toFlight.calls kj13 _ _ l0_0 _ _ l0_1 t205 t208 _ ?side1 ?side2 ?side3 ?side4 A38.out).mono ?_
       (case side1 => exact xd ((Kd.C_below HR0_0.out HB.out)))
       (case side2 => exact HC0_0.out)
       (case side3 => exact xd ((Kd.C_below HR0_1.out HB.out)))
       (case side4 => exact HC0_1.out)
       rintro e w44 ⟨v206, v209, rfl, ho0, ho1, hb⟩
       refine ⟨_, rfl, ?_⟩
       have HO207 := Aside0.mk (Kd.R_lower (Kd.R_new' (Kd.R_new' (Kd.R_new' ho0 (Kd.R_lt (xr HO_6.out))) (Kd.R_lt (xr HO_9.out))) (Kd.R_lt (xr HO_200000.out))) (below_size (xs HB.out)))
       replace HO_6 := Aside0.mk (Kd.R_elder' (xr HO_6.out) (Kd.R_base ho0) hb)
       replace HO_9 := Aside0.mk (Kd.R_elder' (xr HO_9.out) (Kd.R_base ho0) hb)
       replace HO_200000 := Aside0.mk (Kd.R_elder' (xr HO_200000.out) (Kd.R_base ho0) hb)
       have HO210 := Aside0.mk (Kd.R_lower (Kd.R_new' ho1 (Kd.R_lt (xr HO_200001.out))) (below_size (xs HB.out)))
       replace HO_200001 := Aside0.mk (Kd.R_elder' (xr HO_200001.out) (Kd.R_base ho1) hb)
       replace BK181 := xk BK181 hb
       replace BK199 := xk BK199 hb
       replace HB := xp HB hb
       (try clear hb)
       (try clear hb2)
       (try clear hk)
       (try clear hi)
       (try clear ho0)
       (try clear ho1)
       obtain ⟨Ao45, co45, eo45⟩ := Kd.R_slice HO207.out
       (first | subst eo45 | (injection eo45 with f1_ f2_ f3_; have f4_ := f1_.symm; have f5_ := f3_.symm; clear f1_ f2_ f3_; subst f4_; subst f5_))
       obtain ⟨Ao46, co46, eo46⟩ := Kd.R_slice HO210.out
       (first | subst eo46 | (injection eo46 with f1_ f2_ f3_; have f4_ := f1_.symm; have f5_ := f3_.symm; clear f1_ f2_ f3_; subst f4_; subst f5_))
       refine hK.out _ _ ⟨(blk_cell BK199.out 0).trans rfl, (blk_cell BK199.out 1).trans rfl, (blk_cell BK181.out 0).trans rfl, (blk_cell BK181.out 1).trans rfl⟩ (fun hHeld => ?_)
       clear hK K
       refine norm_ (a' := ?_) ?_ ?_
       rotate_left
       ·show Act.put _ (some 50) _ = _
        simp only [Act.put, List.setIfInBounds_toArray, List.set_cons_zero, List.set_cons_succ, i64_w, i32_w]
        rfl
       refine one_ (i := 3) (N := some 51) #[true, true, true, true, false] rfl rfl (by kernel_rfl) (by decide) (fun K hK => ?_)
       refine goes_ Tryd.func14 (by kernel_rfl) rfl #[.agg #[.slice Ao26 t193.length co26, .slice Ao29 t196.length co29], .agg #[.slice Ao45 t205.length co45, .slice Ao46 t208.length co46]] (by rfl) rfl rfl (by (try simp only [List.map_toArray, List.map_cons, List.map_nil]); first | done | rfl | (simp only [List.length_drop, List.length_take]; rfl)) ?_
       with_reducible refine (laws_eqFlight.calls kj13 _ _ t193 _ _ t196 _ _ t205 _ _ t208 true _ ?side1 ?side2 ?side3 ?side4 ?side5 ?side6 ?side7 ?side8 A39.out).mono ?_
       (case side1 => exact xd ((Kd.R_reads' HO_200000.out).2.2))
       (case side2 => exact (Kd.R_reads' HO_200000.out).2.1)
       (case side3 => exact xd ((Kd.R_reads' HO_200001.out).2.2))
       (case side4 => exact (Kd.R_reads' HO_200001.out).2.1)
       (case side5 => exact xd ((Kd.R_reads' HO207.out).2.2))
       (case side6 => exact (Kd.R_reads' HO207.out).2.1)
       (case side7 => exact xd ((Kd.R_reads' HO210.out).2.2))
       (case side8 => exact (Kd.R_reads' HO210.out).2.1)
       rintro e w47 ⟨rfl, hb⟩
       refine ⟨_, rfl, ?_⟩
       replace HO_6 := xq HO_6 hb
       replace HO_9 := xq HO_9 hb
       replace HO_200000 := xq HO_200000 hb
       replace HO_200001 := xq HO_200001 hb
       replace HO207 := xq HO207 hb
       replace HO210 := xq HO210 hb
       replace BK181 := xk BK181 hb
       replace BK199 := xk BK199 hb
       replace HB := xp HB hb
       (try clear hb)
       (try clear hb2)
       (try clear hk)
       (try clear hi)
       refine hK.out _ _ ⟨(blk_cell BK199.out 0).trans rfl, (blk_cell BK199.out 1).trans rfl, (blk_cell BK181.out 0).trans rfl, (blk_cell BK181.out 1).trans rfl⟩ (fun hHeld => ?_)
       clear hK K
       refine norm_ (a' := ?_) ?_ ?_
       rotate_left
       ·show Act.put _ (some 51) _ = _
        simp only [Act.put, List.setIfInBounds_toArray, List.set_cons_zero, List.set_cons_succ, i64_w, i32_w]
        rfl
       refine pure_ (i := 4) (N := some 52) (v := ?_) (a' := ?_) #[true, true, true, true, true] rfl rfl (by kernel_rfl) (fun _ _ _ h => h) (Or.inl ⟨by rfl, ?_⟩) ?_ ?_
       rotate_left
       ·intro w'
        go_simp
        with_reducible rfl
       rotate_left
       ·simp only [Act.put, List.setIfInBounds_toArray, List.set_cons_zero, List.set_cons_succ, i64_w, i32_w]
        rfl
       refine done_ (by kernel_rfl) ?_
       have hnb48 := NB199_181.out
       have hnc48 := NB181_199.out
       have hcz49_0 : w47.cell? ⟨gb199, 0, none⟩ = some (.slice Ao26 t193.length co26) := (blk_cell BK199.out 0).trans rfl
       have hcz49_1 : w47.cell? ⟨gb199, 1, none⟩ = some (.slice Ao29 t196.length co29) := (blk_cell BK199.out 1).trans rfl
       have hfz49_0 := blk_frozen BK199.out 0
       have hfz49_1 := blk_frozen BK199.out 1
       go_upto_region 16 with (first | ((with_reducible refine gate_callee (f := 18) rfl ?_); refine goesL_ (some 55) rfl rfl Tryd.func18 (by kernel_rfl) rfl #[.agg #[.slice Ao26 t193.length co26, .slice Ao29 t196.length co29], .int .i64 1] rfl (by (try simp only [List.map_toArray, List.map_cons, List.map_nil]); first | done | rfl | (simp only [List.length_drop, List.length_take]; rfl)) ?_; (with_reducible refine (laws_markFlight.calls kj13 (fun k_ => some k_ = (.slice Ao26 t193.length co26 : Value).ownBlock) (.slice Ao26 t193.length co26) t193 (fun k_ => some k_ = (.slice Ao29 t196.length co29 : Value).ownBlock) (.slice Ao29 t196.length co29) t196 1 t212 t213 t214 w _ ?side1 ?side2 ?side3 A41.out).mono ?_); (case side1 => repeat (first | (with_reducible first | exact HB.out | apply below_alloc | apply pw_below_drewN | apply below_drew1 | refine below_set ?_ GE181.out | refine below_set ?_ GE199.out) | exact HB.out)); (case side2 => exact Kd.R_tight rfl HO_200000.out); (case side3 => exact Kd.R_tight rfl HO_200001.out); rintro e w50 ⟨rfl, hy0, hy1, hb, hkp⟩; refine ⟨_, rfl, ?_⟩; replace HO_6 := Aside0.mk (Kd.R_mono (ok' := fun k_ => nV k_ v201 ∧ nS k_ Ao26 t193.length co26 ∧ nS k_ Ao45 t205.length co45) (Kd.R_keptB ((Kd.R_apart' HO_6.out (Kd.R_typed HO_200001.out) (by decide))) hkp (fun k_ hk_ hs_ => Or.elim hs_ (fun e_ => (hk_.1.1.2) e_) (fun e_ => (hk_.2) e_))) (fun k_ hk_ => ⟨hk_.1.1.1.1, hk_.1.1.1.2, hk_.1.1.2⟩)); replace HO_9 := Aside0.mk (Kd.R_mono (ok' := fun k_ => nV k_ v190 ∧ nS k_ Ao26 t193.length co26 ∧ nS k_ Ao45 t205.length co45) (Kd.R_keptB ((Kd.R_apart' HO_9.out (Kd.R_typed HO_200001.out) (by decide))) hkp (fun k_ hk_ hs_ => Or.elim hs_ (fun e_ => (hk_.1.1.2) e_) (fun e_ => (hk_.2) e_))) (fun k_ hk_ => ⟨hk_.1.1.1.1, hk_.1.1.1.2, hk_.1.1.2⟩)); replace BK181 := Aside0.mk (blk_kept (xb BK181.out) hkp (fun hs_ => Or.elim hs_ (fun e_ => (fun e_ => (Kd.R_ne HO_200000.out BK181.out (by decide)) e_) e_) (fun e_ => (fun e_ => (Kd.R_ne HO_200001.out BK181.out (by decide)) e_) e_))); replace BK199 := Aside0.mk (blk_kept (xb BK199.out) hkp (fun hs_ => Or.elim hs_ (fun e_ => (fun e_ => (Kd.R_ne HO_200000.out BK199.out (by decide)) e_) e_) (fun e_ => (fun e_ => (Kd.R_ne HO_200001.out BK199.out (by decide)) e_) e_))); replace HO207 := Aside0.mk (Kd.R_mono (ok' := fun k_ => nV k_ v190 ∧ nV k_ v201 ∧ nS k_ Ao26 t193.length co26) (Kd.R_keptB ((Kd.R_apart' HO207.out (Kd.R_typed HO_200001.out) (by decide))) hkp (fun k_ hk_ hs_ => Or.elim hs_ (fun e_ => (hk_.1.2) e_) (fun e_ => (hk_.2) e_))) (fun k_ hk_ => ⟨hk_.1.1.1.1.2, hk_.1.1.1.2, hk_.1.1.2⟩)); replace HO_200001 := Aside0.mk (Kd.R_reok rfl hy1 (fun k_ e_ => HO_200001.out.1 k_ e_)); replace HO210 := Aside0.mk (Kd.R_mono (ok' := fun k_ => nS k_ Ao29 t196.length co29) (Kd.R_keptB ((Kd.R_apart' HO210.out (Kd.R_typed HO_200000.out) (by decide))) hkp (fun k_ hk_ hs_ => Or.elim hs_ (fun e_ => (hk_.2) e_) (fun e_ => (hk_.1.2) e_))) (fun k_ hk_ => hk_.1.1.2)); replace HO_200000 := Aside0.mk (Kd.R_reok rfl hy0 (fun k_ e_ => HO_200000.out.1 k_ e_)); replace HB := Aside0.mk (hb); (try clear hb); (try clear hkp); (try clear hy0); (try clear hy1)))
       (try simp only [Act.put, List.setIfInBounds_toArray, List.set_cons_zero, List.set_cons_succ])
       go_cut [68] (fun v68 wc => ∃ (kq : Nat) (x68_41 : Bool), v68 = .bool x68_41 ∧ Aside0 (laws_FnExactStretchChanges.j1 kq a1 t189 t192 t200 x68_41 l0_0 l0_1 = some true) ∧ Aside0 (kq ≤ kj13) ∧ Aside0 (Kd.R (Kd.int .i64) 3 wc w.heap.size (fun k_ => nV k_ v201 ∧ nS k_ Ao26 t193.length co26) v190 t189) ∧ Aside0 (Kd.R (Kd.int .i64) 3 wc w.heap.size (fun k_ => nV k_ v190 ∧ nS k_ Ao26 t193.length co26) v201 t200) ∧ Aside0 (Kd.R (Kd.int .i64) 3 wc w.heap.size (fun k_ => nV k_ v190 ∧ nV k_ v201) (.slice Ao26 t193.length co26) t213) ∧ Aside0 (Kd.R Kd.bool 4 wc w.heap.size (fun _ => True) (.slice Ao29 t196.length co29) t214) ∧ Aside0 (wc.heap[gb181]? = some (.cells #[(.slice A0_0 l0_0.length c0_0), (.slice A0_1 l0_1.length c0_1)] 26 (0, 0))) ∧ Aside0 (wc.heap[gb199]? = some (.cells #[(.slice Ao26 t193.length co26), (.slice Ao29 t196.length co29)] 30 (0, 0))) ∧ Aside0 (Below w.heap.size w wc))
       case first =>
        have H := HC42.out
        clear HC42
        by_cases c51 : t212 < 0
        ·rw [if_pos c51] at H
         have c51b0 : decide (t212 < 0) = true := decide_eq_true c51
         clear c51
         (first | rw [c51b0] | (simp only [i64_w, i32_w]; rw [c51b0]) | skip)
         have H' := Aside0.mk H
         clear H
         go_wp2
         go_meet
         case rel => exact ⟨_, (true), (by first | rfl | (simp; done) | (simp [*]; done)), H', ⟨by have := HJ13.out; first | omega | exact Nat.le_refl _⟩, ⟨xm HO_6 (fun _ hk => ⟨hk.1, hk.2.1⟩)⟩, ⟨xm HO_9 (fun _ hk => ⟨hk.1, hk.2.1⟩)⟩, ⟨xm HO_200000 (fun _ hk => ⟨hk.1.1, hk.1.2⟩)⟩, ⟨xm HO_200001 (fun _ hk => trivial)⟩, ⟨xb BK181.out⟩, ⟨xb BK199.out⟩, ⟨xs HB.out⟩⟩
        ·rw [if_neg c51] at H
         have c51b0 : decide (t212 < 0) = false := decide_eq_false c51
         clear c51
         (first | rw [c51b0] | (simp only [i64_w, i32_w]; rw [c51b0]) | skip)
         replace H := Option.bind_eq_some_iff.mp H
         obtain ⟨t215, A520, H⟩ := H
         replace H : (if t215 = true then (laws_FnExactStretchChanges.j1 kj13 a1 t189 t192 t200 (t203 != t192) l0_0 l0_1) else (laws_FnExactStretchChanges.j1 kj13 a1 t189 t192 t200 true l0_0 l0_1)) = some true := H
         have A52 := Aside0.mk A520
         clear A520
         by_cases c53 : t215 = true
         ·subst c53
          have H1 : (laws_FnExactStretchChanges.j1 kj13 a1 t189 t192 t200 (t203 != t192) l0_0 l0_1) = some true := by first | (rw [if_pos rfl] at H; exact H) | rfl
          clear H
          have H := H1
          clear H1
          have H' := Aside0.mk H
          clear H
          obtain ⟨Ao54, co54, eo54⟩ := Kd.R_slice HO_9.out
          subst eo54
          obtain ⟨Ao55, co55, eo55⟩ := Kd.R_slice HO_6.out
          subst eo55
          go_wp2_with (first | (go_at_call 17; (with_reducible refine (laws_eqIntS.calls kj13 _ _ t200 _ _ t189 true _ ?side1 ?side2 ?side3 ?side4 A52.out).mono ?_); (case side1 => exact xd ((Kd.R_reads' HO_9.out).2.2)); (case side2 => exact (Kd.R_reads' HO_9.out).2.1); (case side3 => exact xd ((Kd.R_reads' HO_6.out).2.2)); (case side4 => exact (Kd.R_reads' HO_6.out).2.1); rintro e w' ⟨rfl, ⟨nd, rfl⟩⟩))
          go_meet
          case rel => exact ⟨_, ((t203 != t192)), (by first | rfl | (simp; done) | (simp [*]; done)), H', ⟨by have := HJ13.out; first | omega | exact Nat.le_refl _⟩, ⟨xm HO_6 (fun _ hk => ⟨hk.1, hk.2.1⟩)⟩, ⟨xm HO_9 (fun _ hk => ⟨hk.1, hk.2.1⟩)⟩, ⟨xm HO_200000 (fun _ hk => ⟨hk.1.1, hk.1.2⟩)⟩, ⟨xm HO_200001 (fun _ hk => trivial)⟩, ⟨xb BK181.out⟩, ⟨xb BK199.out⟩, ⟨xs HB.out⟩⟩
         ·replace c53 := Bool.eq_false_iff.mpr c53
          subst c53
          have H1 : (laws_FnExactStretchChanges.j1 kj13 a1 t189 t192 t200 true l0_0 l0_1) = some true := by first | (rw [if_neg (show ¬ (false = true) by decide)] at H; exact H) | rfl
          clear H
          have H := H1
          clear H1
          have H' := Aside0.mk H
          clear H
          obtain ⟨Ao56, co56, eo56⟩ := Kd.R_slice HO_9.out
          subst eo56
          obtain ⟨Ao57, co57, eo57⟩ := Kd.R_slice HO_6.out
          subst eo57
          go_wp2_with (first | (go_at_call 17; (with_reducible refine (laws_eqIntS.calls kj13 _ _ t200 _ _ t189 false _ ?side1 ?side2 ?side3 ?side4 A52.out).mono ?_); (case side1 => exact xd ((Kd.R_reads' HO_9.out).2.2)); (case side2 => exact (Kd.R_reads' HO_9.out).2.1); (case side3 => exact xd ((Kd.R_reads' HO_6.out).2.2)); (case side4 => exact (Kd.R_reads' HO_6.out).2.1); rintro e w' ⟨rfl, ⟨nd, rfl⟩⟩))
          go_meet
          case rel => exact ⟨_, (true), (by first | rfl | (simp; done) | (simp [*]; done)), H', ⟨by have := HJ13.out; first | omega | exact Nat.le_refl _⟩, ⟨xm HO_6 (fun _ hk => ⟨hk.1, hk.2.1⟩)⟩, ⟨xm HO_9 (fun _ hk => ⟨hk.1, hk.2.1⟩)⟩, ⟨xm HO_200000 (fun _ hk => ⟨hk.1.1, hk.1.2⟩)⟩, ⟨xm HO_200001 (fun _ hk => trivial)⟩, ⟨xb BK181.out⟩, ⟨xb BK199.out⟩, ⟨xs HB.out⟩⟩
       case rest =>
        clear HC42
        try clear c1
        try clear c2
        try clear p2
        try clear c3
        try clear c3b0
        try clear c3b1
        try clear c4
        try clear c5
        try clear c6
        try clear c6b0
        try clear c10
        try clear c12
        try clear c14
        try clear c17
        try clear c18
        try clear c21
        try clear c22
        try clear c27
        try clear c32
        try clear c37
        try clear c40
        try clear c48
        try clear c51
        try clear c51b0
        try clear c53
        try clear hcz16_0
        try clear hcz16_1
        try clear hcz18_0
        try clear hcz18_1
        try clear hcz23_0
        try clear hcz23_1
        try clear hcz28_0
        try clear hcz28_1
        try clear hcz49_0
        try clear hcz49_1
        try clear hcz8_0
        try clear hcz8_1
        try clear hfz16_0
        try clear hfz16_1
        try clear hfz18_0
        try clear hfz18_1
        try clear hfz23_0
        try clear hfz23_1
        try clear hfz28_0
        try clear hfz28_1
        try clear hfz49_0
        try clear hfz49_1
        try clear hfz8_0
        try clear hfz8_1
        try clear p2
        obtain ⟨kq, x68_41, rfl, HA, HJ41, HO_6, HO_9, HO_200000, HO_200001, BK181, BK199, HB⟩ := hcut
        have hl200000_41 := (Kd.R_reads' HO_200000.out).1
        rw [hl200000_41] at HO_200000
        (try simp only [hl200000_41])
        (try simp only [hl200000_41] at BK181)
        (try simp only [hl200000_41] at BK199)
        (try simp only [hl200000_41] at HO_6)
        (try simp only [hl200000_41] at HO_9)
        (try simp only [hl200000_41] at HO_200001)
        have hl200001_41 := (Kd.R_reads' HO_200001.out).1
        rw [hl200001_41] at HO_200001
        (try simp only [hl200001_41])
        (try simp only [hl200001_41] at BK181)
        (try simp only [hl200001_41] at BK199)
        (try simp only [hl200001_41] at HO_6)
        (try simp only [hl200001_41] at HO_9)
        (try simp only [hl200001_41] at HO_200000)
        cases kq with
        | zero => exact absurd HA.out (by simp [laws_FnExactStretchChanges.j1])
        | succ kj41 =>
         have H := HA.out
         clear HA
         simp only [laws_FnExactStretchChanges.j1] at H
         by_cases c58 : x68_41 = true
         ·subst c58
          have H1 : (some false) = some true := by first | (rw [if_pos rfl] at H; exact H) | rfl
          clear H
          have H := H1
          clear H1
          exact absurd H (by simp)
         ·replace c58 := Bool.eq_false_iff.mpr c58
          subst c58
          have H1 : ((laws_markIntS.f kj41 t200 1).bind fun bt216 => ((laws_heldIntS.f kj41 bt216.2 1).bind fun t218 => (if t218 < 0 then (some false) else (if t218 = bt216.1 then ((laws_toFlight.f kj41 l0_0 l0_1).bind fun bt219 => ((impl_StretchChanges.f bt219.1 bt219.2 a1).bind fun bt225 => ((laws_eqIntS.f kj41 bt225.1 t189).bind fun t229 => (if t229 = true then (laws_FnExactStretchChanges.j2 kj41 bt216.2 bt216.1 (bt225.2 != t192)) else (laws_FnExactStretchChanges.j2 kj41 bt216.2 bt216.1 true))))) else (some false))))) = some true := by first | (rw [if_neg (show ¬ (false = true) by decide)] at H; exact H) | rfl
          clear H
          have H := H1
          clear H1
          replace H := Option.bind_eq_some_iff.mp H
          obtain ⟨⟨t216, t217⟩, A590, H⟩ := H
          replace H : ((laws_heldIntS.f kj41 t217 1).bind fun t218 => (if t218 < 0 then (some false) else (if t218 = t216 then ((laws_toFlight.f kj41 l0_0 l0_1).bind fun bt219 => ((impl_StretchChanges.f bt219.1 bt219.2 a1).bind fun bt225 => ((laws_eqIntS.f kj41 bt225.1 t189).bind fun t229 => (if t229 = true then (laws_FnExactStretchChanges.j2 kj41 t217 t216 (bt225.2 != t192)) else (laws_FnExactStretchChanges.j2 kj41 t217 t216 true))))) else (some false)))) = some true := H
          have A59 := Aside0.mk A590
          clear A590
          replace H := Option.bind_eq_some_iff.mp H
          obtain ⟨t218, A600, H⟩ := H
          replace H : (if t218 < 0 then (some false) else (if t218 = t216 then ((laws_toFlight.f kj41 l0_0 l0_1).bind fun bt219 => ((impl_StretchChanges.f bt219.1 bt219.2 a1).bind fun bt225 => ((laws_eqIntS.f kj41 bt225.1 t189).bind fun t229 => (if t229 = true then (laws_FnExactStretchChanges.j2 kj41 t217 t216 (bt225.2 != t192)) else (laws_FnExactStretchChanges.j2 kj41 t217 t216 true))))) else (some false))) = some true := H
          have A60 := Aside0.mk A600
          clear A600
          by_cases c61 : t218 < 0
          ·rw [if_pos c61] at H
           have c61b0 : decide (t218 < 0) = true := decide_eq_true c61
           clear c61
           exact absurd H (by simp)
          ·rw [if_neg c61] at H
           have c61b0 : decide (t218 < 0) = false := decide_eq_false c61
           clear c61
           by_cases c62 : t218 = t216
           ·rw [if_pos c62] at H
            have c62b0 : (t218 == t216) = true := beq_iff_eq.mpr c62
            have c62b1 : (t218 != t216) = false := bne_eq_false_iff_eq.mpr c62
            clear c62
            replace H := Option.bind_eq_some_iff.mp H
            obtain ⟨⟨t219, t222⟩, A630, H⟩ := H
            replace H : ((impl_StretchChanges.f t219 t222 a1).bind fun bt225 => ((laws_eqIntS.f kj41 bt225.1 t189).bind fun t229 => (if t229 = true then (laws_FnExactStretchChanges.j2 kj41 t217 t216 (bt225.2 != t192)) else (laws_FnExactStretchChanges.j2 kj41 t217 t216 true)))) = some true := H
            have A63 := Aside0.mk A630
            clear A630
            replace H := Option.bind_eq_some_iff.mp H
            obtain ⟨⟨t225, t228⟩, A640, H⟩ := H
            replace H : ((laws_eqIntS.f kj41 t225 t189).bind fun t229 => (if t229 = true then (laws_FnExactStretchChanges.j2 kj41 t217 t216 (t228 != t192)) else (laws_FnExactStretchChanges.j2 kj41 t217 t216 true))) = some true := H
            have A64 := Aside0.mk A640
            clear A640
            have HC65 := Aside0.mk H
            clear H
            obtain ⟨Ao66, co66, eo66⟩ := Kd.R_slice HO_9.out
            subst eo66
            go_upto_region 27 with (first | ((with_reducible refine gate_callee (f := 19) rfl ?_); refine goesL_ (some 71) rfl rfl Tryd.func19 (by kernel_rfl) rfl #[.slice Ao66 t200.length co66, .int .i64 1] rfl (by (try simp only [List.map_toArray, List.map_cons, List.map_nil]); first | done | rfl | (simp only [List.length_drop, List.length_take]; rfl)) ?_; (with_reducible refine (laws_markIntS.calls kj41 (fun k_ => some k_ = (.slice Ao66 t200.length co66 : Value).ownBlock) (.slice Ao66 t200.length co66) t200 1 t216 t217 w _ ?side1 ?side2 A59.out).mono ?_); (case side1 => repeat (first | (with_reducible first | exact HB.out | apply below_alloc | apply pw_below_drewN | apply below_drew1 | refine below_set ?_ GE181.out | refine below_set ?_ GE199.out) | exact HB.out)); (case side2 => exact Kd.R_tight rfl HO_9.out); rintro e w67 ⟨rfl, hy0, hb, hkp⟩; refine ⟨_, rfl, ?_⟩; replace HO_6 := Aside0.mk (Kd.R_mono (ok' := fun k_ => nS k_ Ao66 t200.length co66 ∧ nS k_ Ao26 t213.length co26) (Kd.R_keptB (HO_6.out) hkp (fun k_ hk_ hs_ => (hk_.1) hs_)) (fun k_ hk_ => ⟨hk_.1.1, hk_.1.2⟩)); replace HO_200000 := Aside0.mk (Kd.R_mono (ok' := fun k_ => nV k_ v190 ∧ nS k_ Ao66 t200.length co66) (Kd.R_keptB (HO_200000.out) hkp (fun k_ hk_ hs_ => (hk_.2) hs_)) (fun k_ hk_ => ⟨hk_.1.1, hk_.1.2⟩)); replace HO_200001 := Aside0.mk (Kd.R_mono (ok' := fun k_ => True) (Kd.R_keptB ((Kd.R_apart' HO_200001.out (Kd.R_typed HO_9.out) (by decide))) hkp (fun k_ hk_ hs_ => (hk_.2) hs_)) (fun k_ hk_ => trivial)); replace BK181 := Aside0.mk (blk_kept (xb BK181.out) hkp (fun hs_ => (fun e_ => (Kd.R_ne HO_9.out BK181.out (by decide)) e_) hs_)); replace BK199 := Aside0.mk (blk_kept (xb BK199.out) hkp (fun hs_ => (fun e_ => (Kd.R_ne HO_9.out BK199.out (by decide)) e_) hs_)); replace HO_9 := Aside0.mk (Kd.R_reok rfl hy0 (fun k_ e_ => HO_9.out.1 k_ e_)); replace HB := Aside0.mk (hb); (try clear hb); (try clear hkp); (try clear hy0)) | ((with_reducible refine gate_callee (f := 20) rfl ?_); refine goesL_ (some 74) rfl rfl Tryd.func20 (by kernel_rfl) rfl #[.slice Ao66 t217.length co66, .int .i64 1] rfl (by (try simp only [List.map_toArray, List.map_cons, List.map_nil]); first | done | (rw [show t217.length = t200.length from (Kd.R_reads' HO_9.out).1.symm] <;> rfl) | rfl | (simp only [List.length_drop, List.length_take]; rfl)) ?_; (with_reducible refine (laws_heldIntS.calls kj41 _ _ t217 1 t218 _ ?side1 ?side2 A60.out).mono ?_); (case side1 => exact xd ((Kd.R_reads' HO_9.out).2.2)); (case side2 => rw [show t217.length = t200.length from (Kd.R_reads' HO_9.out).1.symm]; exact (Kd.R_reads' HO_9.out).2.1); rintro e w' ⟨rfl, ⟨nd, rfl⟩⟩; refine ⟨_, rfl, ?_⟩; have hnb68 := NB181_199.out; have hnc68 := NB199_181.out; have hcz69_0 : w67.cell? ⟨gb181, 0, none⟩ = some (.slice A0_0 l0_0.length c0_0) := (blk_cell BK181.out 0).trans rfl; have hcz69_1 : w67.cell? ⟨gb181, 1, none⟩ = some (.slice A0_1 l0_1.length c0_1) := (blk_cell BK181.out 1).trans rfl; have hfz69_0 := blk_frozen BK181.out 0; have hfz69_1 := blk_frozen BK181.out 1) | ((with_reducible refine gate_callee (f := 12) rfl ?_); refine goesL_ (some 82) rfl rfl Tryd.func12 (by kernel_rfl) rfl #[.agg #[.slice A0_0 l0_0.length c0_0, .slice A0_1 l0_1.length c0_1]] rfl (by (try simp only [List.map_toArray, List.map_cons, List.map_nil]); first | done | rfl | (simp only [List.length_drop, List.length_take]; rfl)) ?_; (with_reducible refine (laws_toFlight.calls kj41 _ _ l0_0 _ _ l0_1 t219 t222 _ ?side1 ?side2 ?side3 ?side4 A63.out).mono ?_); (case side1 => repeat (first | exact (Kd.C_below HR0_0.out (xs HB.out)) | (with_reducible refine Kd.C_alloc ?_ _) | (with_reducible refine Kd.C_drewN ?_ _) | (with_reducible refine Kd.C_drew ?_))); (case side2 => exact HC0_0.out); (case side3 => repeat (first | exact (Kd.C_below HR0_1.out (xs HB.out)) | (with_reducible refine Kd.C_alloc ?_ _) | (with_reducible refine Kd.C_drewN ?_ _) | (with_reducible refine Kd.C_drew ?_))); (case side4 => exact HC0_1.out); rintro e w70 ⟨v220, v223, rfl, ho0, ho1, hb⟩; refine ⟨_, rfl, ?_⟩; have HO221 := Aside0.mk (Kd.R_lower (Kd.R_new' (Kd.R_new' (Kd.R_new' ho0 (Kd.R_lt (xr HO_6.out))) (Kd.R_lt (xr HO_9.out))) (Kd.R_lt (xr HO_200000.out))) (below_size (xs HB.out))); replace HO_6 := Aside0.mk (Kd.R_elder' (xr HO_6.out) (Kd.R_base ho0) hb); replace HO_9 := Aside0.mk (Kd.R_elder' (xr HO_9.out) (Kd.R_base ho0) hb); replace HO_200000 := Aside0.mk (Kd.R_elder' (xr HO_200000.out) (Kd.R_base ho0) hb); have HO224 := Aside0.mk (Kd.R_lower (Kd.R_new' ho1 (Kd.R_lt (xr HO_200001.out))) (below_size (xs HB.out))); replace HO_200001 := Aside0.mk (Kd.R_elder' (xr HO_200001.out) (Kd.R_base ho1) hb); replace BK181 := xk BK181 hb; replace BK199 := xk BK199 hb; replace HB := xp HB hb; (try clear hb); (try clear hb2); (try clear hk); (try clear hi); (try clear ho0); (try clear ho1); obtain ⟨Ao71, co71, eo71⟩ := Kd.R_slice HO221.out; subst eo71; obtain ⟨Ao72, co72, eo72⟩ := Kd.R_slice HO224.out; subst eo72) | ((with_reducible refine gate_callee (f := 22) rfl ?_); refine goesL_ (some 84) rfl rfl Tryd.func22 (by kernel_rfl) rfl #[.agg #[.slice Ao71 t219.length co71, .slice Ao72 t222.length co72], .string a1] rfl (by (try simp only [List.map_toArray, List.map_cons, List.map_nil]); first | done | rfl | (simp only [List.length_drop, List.length_take]; rfl)) ?_; (with_reducible refine (impl_StretchChanges.calls _ _ t219 _ _ t222 a1 t225 t228 _ ?side1 ?side2 ?side3 ?side4 A64.out).mono ?_); (case side1 => exact xd ((Kd.R_reads' HO221.out).2.2)); (case side2 => exact (Kd.R_reads' HO221.out).2.1); (case side3 => exact xd ((Kd.R_reads' HO224.out).2.2)); (case side4 => exact (Kd.R_reads' HO224.out).2.1); rintro e w73 ⟨v226, rfl, ho0, hb⟩; refine ⟨_, rfl, ?_⟩; replace HO_200001 := xq HO_200001 hb; replace HO224 := xq HO224 hb; have HO227 := Aside0.mk (Kd.R_lower (Kd.R_new' (Kd.R_new' (Kd.R_new' (Kd.R_new' ho0 (Kd.R_lt (xr HO_6.out))) (Kd.R_lt (xr HO_9.out))) (Kd.R_lt (xr HO_200000.out))) (Kd.R_lt (xr HO221.out))) (below_size (xs HB.out))); replace HO_6 := Aside0.mk (Kd.R_elder' (xr HO_6.out) (Kd.R_base ho0) hb); replace HO_9 := Aside0.mk (Kd.R_elder' (xr HO_9.out) (Kd.R_base ho0) hb); replace HO_200000 := Aside0.mk (Kd.R_elder' (xr HO_200000.out) (Kd.R_base ho0) hb); replace HO221 := Aside0.mk (Kd.R_elder' (xr HO221.out) (Kd.R_base ho0) hb); replace BK181 := xk BK181 hb; replace BK199 := xk BK199 hb; replace HB := xp HB hb; (try clear hb); (try clear hb2); (try clear hk); (try clear hi); (try clear ho0)))
            (try simp only [Act.put, List.setIfInBounds_toArray, List.set_cons_zero, List.set_cons_succ])
            go_cut [95] (fun v95 wc => ∃ (kq : Nat) (x95_64 : Bool), v95 = .bool x95_64 ∧ Aside0 (laws_FnExactStretchChanges.j2 kq t217 t216 x95_64 = some true) ∧ Aside0 (kq ≤ kj41) ∧ Aside0 (Kd.R (Kd.int .i64) 3 wc w.heap.size (fun k_ => nS k_ Ao26 t213.length co26) (.slice Ao66 t200.length co66) t217) ∧ Aside0 (Kd.R (Kd.int .i64) 3 wc w.heap.size (fun k_ => nS k_ Ao66 t200.length co66) (.slice Ao26 t213.length co26) t213) ∧ Aside0 (Kd.R Kd.bool 4 wc w.heap.size (fun _ => True) (.slice Ao29 t214.length co29) t214) ∧ Aside0 (wc.heap[gb181]? = some (.cells #[(.slice A0_0 l0_0.length c0_0), (.slice A0_1 l0_1.length c0_1)] 26 (0, 0))) ∧ Aside0 (wc.heap[gb199]? = some (.cells #[(.slice Ao26 t213.length co26), (.slice Ao29 t214.length co29)] 30 (0, 0))) ∧ Aside0 (Below w.heap.size w wc))
            case first =>
             have H := HC65.out
             clear HC65
             replace H := Option.bind_eq_some_iff.mp H
             obtain ⟨t229, A740, H⟩ := H
             replace H : (if t229 = true then (laws_FnExactStretchChanges.j2 kj41 t217 t216 (t228 != t192)) else (laws_FnExactStretchChanges.j2 kj41 t217 t216 true)) = some true := H
             have A74 := Aside0.mk A740
             clear A740
             by_cases c75 : t229 = true
             ·subst c75
              have H1 : (laws_FnExactStretchChanges.j2 kj41 t217 t216 (t228 != t192)) = some true := by first | (rw [if_pos rfl] at H; exact H) | rfl
              clear H
              have H := H1
              clear H1
              have H' := Aside0.mk H
              clear H
              obtain ⟨Ao76, co76, eo76⟩ := Kd.R_slice HO227.out
              subst eo76
              obtain ⟨Ao77, co77, eo77⟩ := Kd.R_slice HO_6.out
              subst eo77
              go_wp2_with (first | ((with_reducible refine gate_callee (f := 17) rfl ?_); refine goesL_ (some 89) rfl rfl Tryd.func17 (by kernel_rfl) rfl #[.slice Ao76 t225.length co76, .slice Ao77 t189.length co77] rfl (by (try simp only [List.map_toArray, List.map_cons, List.map_nil]); first | done | rfl | (simp only [List.length_drop, List.length_take]; rfl)) ?_; (with_reducible refine (laws_eqIntS.calls kj41 _ _ t225 _ _ t189 true _ ?side1 ?side2 ?side3 ?side4 A74.out).mono ?_); (case side1 => exact xd ((Kd.R_reads' HO227.out).2.2)); (case side2 => exact (Kd.R_reads' HO227.out).2.1); (case side3 => exact xd ((Kd.R_reads' HO_6.out).2.2)); (case side4 => exact (Kd.R_reads' HO_6.out).2.1); rintro e w' ⟨rfl, ⟨nd, rfl⟩⟩; refine ⟨_, rfl, ?_⟩))
              go_meet
              case rel => exact ⟨_, ((t228 != t192)), (by first | rfl | (simp; done) | (simp [*]; done)), H', ⟨by have := HJ13.out; have := HJ41.out; first | omega | exact Nat.le_refl _⟩, ⟨by (try simp only [hl200000_41]); (try simp only [hl200001_41]); (with_reducible repeat (first | apply Kd.R_alloc | apply Kd.R_drewN | apply Kd.R_drew)); exact Kd.R_mono HO_9.out (fun _ hk => hk.1.1.2)⟩, ⟨by (try simp only [hl200000_41]); (try simp only [hl200001_41]); (with_reducible repeat (first | apply Kd.R_alloc | apply Kd.R_drewN | apply Kd.R_drew)); exact Kd.R_mono HO_200000.out (fun _ hk => hk.1.1.2)⟩, ⟨by (try simp only [hl200000_41]); (try simp only [hl200001_41]); (with_reducible repeat (first | apply Kd.R_alloc | apply Kd.R_drewN | apply Kd.R_drew)); exact Kd.R_mono HO_200001.out (fun _ hk => trivial)⟩, ⟨by (try simp only [hl200000_41]); (try simp only [hl200001_41]); (with_reducible repeat (first | refine blk_drewN ?_ _ | refine blk_drew ?_ | refine blk_alloc ?_ _)); exact BK181.out⟩, ⟨by (try simp only [hl200000_41]); (try simp only [hl200001_41]); (with_reducible repeat (first | refine blk_drewN ?_ _ | refine blk_drew ?_ | refine blk_alloc ?_ _)); exact BK199.out⟩, ⟨xs HB.out⟩⟩
             ·replace c75 := Bool.eq_false_iff.mpr c75
              subst c75
              have H1 : (laws_FnExactStretchChanges.j2 kj41 t217 t216 true) = some true := by first | (rw [if_neg (show ¬ (false = true) by decide)] at H; exact H) | rfl
              clear H
              have H := H1
              clear H1
              have H' := Aside0.mk H
              clear H
              obtain ⟨Ao78, co78, eo78⟩ := Kd.R_slice HO227.out
              subst eo78
              obtain ⟨Ao79, co79, eo79⟩ := Kd.R_slice HO_6.out
              subst eo79
              go_wp2_with (first | ((with_reducible refine gate_callee (f := 17) rfl ?_); refine goesL_ (some 89) rfl rfl Tryd.func17 (by kernel_rfl) rfl #[.slice Ao78 t225.length co78, .slice Ao79 t189.length co79] rfl (by (try simp only [List.map_toArray, List.map_cons, List.map_nil]); first | done | rfl | (simp only [List.length_drop, List.length_take]; rfl)) ?_; (with_reducible refine (laws_eqIntS.calls kj41 _ _ t225 _ _ t189 false _ ?side1 ?side2 ?side3 ?side4 A74.out).mono ?_); (case side1 => exact xd ((Kd.R_reads' HO227.out).2.2)); (case side2 => exact (Kd.R_reads' HO227.out).2.1); (case side3 => exact xd ((Kd.R_reads' HO_6.out).2.2)); (case side4 => exact (Kd.R_reads' HO_6.out).2.1); rintro e w' ⟨rfl, ⟨nd, rfl⟩⟩; refine ⟨_, rfl, ?_⟩))
              go_meet
              case rel => exact ⟨_, (true), (by first | rfl | (simp; done) | (simp [*]; done)), H', ⟨by have := HJ13.out; have := HJ41.out; first | omega | exact Nat.le_refl _⟩, ⟨by (try simp only [hl200000_41]); (try simp only [hl200001_41]); (with_reducible repeat (first | apply Kd.R_alloc | apply Kd.R_drewN | apply Kd.R_drew)); exact Kd.R_mono HO_9.out (fun _ hk => hk.1.1.2)⟩, ⟨by (try simp only [hl200000_41]); (try simp only [hl200001_41]); (with_reducible repeat (first | apply Kd.R_alloc | apply Kd.R_drewN | apply Kd.R_drew)); exact Kd.R_mono HO_200000.out (fun _ hk => hk.1.1.2)⟩, ⟨by (try simp only [hl200000_41]); (try simp only [hl200001_41]); (with_reducible repeat (first | apply Kd.R_alloc | apply Kd.R_drewN | apply Kd.R_drew)); exact Kd.R_mono HO_200001.out (fun _ hk => trivial)⟩, ⟨by (try simp only [hl200000_41]); (try simp only [hl200001_41]); (with_reducible repeat (first | refine blk_drewN ?_ _ | refine blk_drew ?_ | refine blk_alloc ?_ _)); exact BK181.out⟩, ⟨by (try simp only [hl200000_41]); (try simp only [hl200001_41]); (with_reducible repeat (first | refine blk_drewN ?_ _ | refine blk_drew ?_ | refine blk_alloc ?_ _)); exact BK199.out⟩, ⟨xs HB.out⟩⟩
            case rest =>
             clear HC65
             try clear c1
             try clear c2
             try clear p2
             try clear c3
             try clear c3b0
             try clear c3b1
             try clear c4
             try clear c5
             try clear c6
             try clear c6b0
             try clear c7
             try clear c10
             try clear c12
             try clear c14
             try clear c17
             try clear c18
             try clear c19
             try clear c20
             try clear c21
             try clear c22
             try clear c27
             try clear c32
             try clear c37
             try clear c40
             try clear c48
             try clear c51
             try clear c51b0
             try clear c53
             try clear c58
             try clear c61
             try clear c61b0
             try clear c62
             try clear c62b0
             try clear c62b1
             try clear c68
             try clear c75
             try clear hcz16_0
             try clear hcz16_1
             try clear hcz18_0
             try clear hcz18_1
             try clear hcz23_0
             try clear hcz23_1
             try clear hcz28_0
             try clear hcz28_1
             try clear hcz49_0
             try clear hcz49_1
             try clear hcz69_0
             try clear hcz69_1
             try clear hcz8_0
             try clear hcz8_1
             try clear hfz16_0
             try clear hfz16_1
             try clear hfz18_0
             try clear hfz18_1
             try clear hfz23_0
             try clear hfz23_1
             try clear hfz28_0
             try clear hfz28_1
             try clear hfz49_0
             try clear hfz49_1
             try clear hfz69_0
             try clear hfz69_1
             try clear hfz8_0
             try clear hfz8_1
             try clear p2
             obtain ⟨kq, x95_64, rfl, HA, HJ64, HO_9, HO_200000, HO_200001, BK181, BK199, HB⟩ := hcut
             have hl9_64 := (Kd.R_reads' HO_9.out).1
             rw [hl9_64] at HO_9
             (try simp only [hl9_64])
             (try simp only [hl9_64] at BK181)
             (try simp only [hl9_64] at BK199)
             (try simp only [hl9_64] at HO_200000)
             (try simp only [hl9_64] at HO_200001)
             cases kq with
             | zero => exact absurd HA.out (by simp [laws_FnExactStretchChanges.j2])
             | succ kj64 =>
              have H := HA.out
              clear HA
              simp only [laws_FnExactStretchChanges.j2] at H
              by_cases c80 : x95_64 = true
              ·subst c80
               have H1 : (some false) = some true := by first | (rw [if_pos rfl] at H; exact H) | rfl
               clear H
               have H := H1
               clear H1
               exact absurd H (by simp)
              ·replace c80 := Bool.eq_false_iff.mpr c80
               subst c80
               have H1 : ((laws_heldIntS.f kj64 t217 1).bind fun t230 => (if t230 < 0 then (some false) else (if t230 = t216 then (some true) else (some false)))) = some true := by first | (rw [if_neg (show ¬ (false = true) by decide)] at H; exact H) | rfl
               clear H
               have H := H1
               clear H1
               replace H := Option.bind_eq_some_iff.mp H
               obtain ⟨t230, A810, H⟩ := H
               replace H : (if t230 < 0 then (some false) else (if t230 = t216 then (some true) else (some false))) = some true := H
               have A81 := Aside0.mk A810
               clear A810
               by_cases c82 : t230 < 0
               ·rw [if_pos c82] at H
                have c82b0 : decide (t230 < 0) = true := decide_eq_true c82
                clear c82
                exact absurd H (by simp)
               ·rw [if_neg c82] at H
                have c82b0 : decide (t230 < 0) = false := decide_eq_false c82
                clear c82
                by_cases c83 : t230 = t216
                ·rw [if_pos c83] at H
                 have c83b0 : (t230 == t216) = true := beq_iff_eq.mpr c83
                 have c83b1 : (t230 != t216) = false := bne_eq_false_iff_eq.mpr c83
                 clear c83
                 clear H
                 go_wp2_with (first | ((with_reducible refine gate_callee (f := 20) rfl ?_); refine goesL_ (some 98) rfl rfl Tryd.func20 (by kernel_rfl) rfl #[.slice Ao66 t217.length co66, .int .i64 1] rfl (by (try simp only [List.map_toArray, List.map_cons, List.map_nil]); first | done | rfl | (simp only [List.length_drop, List.length_take]; rfl)) ?_; (with_reducible refine (laws_heldIntS.calls kj64 _ _ t217 1 t230 _ ?side1 ?side2 A81.out).mono ?_); (case side1 => exact xd ((Kd.R_reads' HO_9.out).2.2)); (case side2 => exact (Kd.R_reads' HO_9.out).2.1); rintro e w' ⟨rfl, ⟨nd, rfl⟩⟩; refine ⟨_, rfl, ?_⟩))
                 go_ret
                 exact ⟨by first | rfl | (simp [errW_none, errW_some] <;> rfl) | (simp [*, errW_none, errW_some] <;> rfl), by repeat (first | (with_reducible first | exact HB.out | apply below_alloc | apply pw_below_drewN | apply below_drew1 | refine below_set ?_ GE181.out | refine below_set ?_ GE199.out) | exact HB.out)⟩
                ·rw [if_neg c83] at H
                 have c83b0 : (t230 == t216) = false := beq_eq_false_iff_ne.mpr c83
                 have c83b1 : (t230 != t216) = true := bne_iff_ne.mpr c83
                 exact absurd H (by simp)
           ·rw [if_neg c62] at H
            have c62b0 : (t218 == t216) = false := beq_eq_false_iff_ne.mpr c62
            have c62b1 : (t218 != t216) = true := bne_iff_ne.mpr c62
            exact absurd H (by simp)
      ·replace c40 := Bool.eq_false_iff.mpr c40
       subst c40
       have H1 : (some false) = some true := by first | (rw [if_neg (show ¬ (false = true) by decide)] at H; exact H) | rfl
       clear H
       have H := H1
       clear H1
       exact absurd H (by simp)

end Go.Proofs.YtmedapafllmhjaaDoor.PFnExactStretchChanges

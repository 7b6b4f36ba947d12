/- Lean functions of the Go functions that the law FnExactLeastTraffic reaches, and the proofs that the calls come to what they say (made by program). -/
import Derived.Test.YtminippcikenfaaAb
import Derived.Maps.OwnOps
import Derived.Maps.OwnSet
import Derived.DeepKeys4
import Derived.Test.YtminippcikenfaaPFnExactLeastTrafficx0
import Derived.Test.YtminippcikenfaaPFnExactLeastTrafficx2
namespace Go.Proofs.Ytminippcikenfaa.PFnExactLeastTraffic
open Go.RowKit Go.Proofs.YtminippcikenfaaW.PrintWords Go.Proofs.YtminippcikenfaaW.PrintLast Go.Proofs.YtminippcikenfaaW.PrintMore Go.Proofs.Ytminippcikenfaa.Ab
attribute [local go_sem] max2_int min2_int max_two min_two max_three min_three max_four min_four   -- for this text's walks alone
set_option linter.unusedVariables false
set_option linter.unusedSimpArgs false

/-! ### impl_areShips: function 71 -/
def impl_areShips.f (l0_0 : List Int) (l0_1 : List Bool) (a1 : Int) (a2 : Int) : Option (Bool) := (impl_IsFlight.f l0_0 l0_1).bind fun t157 => (if t157 = true then ((impl_within.f a1 0 10).bind fun t158 => (if t158 = true then ((impl_within.f a2 0 10).bind fun t159 => (some t159)) else (some false))) else (some false))
set_option maxHeartbeats 8000000 in
set_option maxRecDepth 100000 in
theorem impl_areShips.calls (A0_0 : Option Addr) (c0_0 : Nat) (l0_0 : List Int) (A0_1 : Option Addr) (c0_1 : Nat) (l0_1 : List Bool) (a1 : Int) (a2 : Int) (r : Bool) (w : World) (hr0_0 : Kd.C (Kd.int .i64) w A0_0 l0_0.length l0_0) (hc0_0 : l0_0.length ≤ c0_0) (hr0_1 : Kd.C Kd.bool w A0_1 l0_1.length l0_1) (hc0_1 : l0_1.length ≤ c0_1) (h : impl_areShips.f l0_0 l0_1 a1 a2 = some r) :
  Calls Try.prog 71 #[.agg #[.slice A0_0 l0_0.length c0_0, .slice A0_1 l0_1.length c0_1], .int .i64 a1, .int .i64 a2] w fun e w' => e = .returned (.bool r) ∧ Below w.heap.size w w' := by
 have hu61 := Try.underlying61
 have HR0_0 := Aside0.mk hr0_0
 have HC0_0 := Aside0.mk hc0_0
 clear hr0_0 hc0_0
 have HR0_1 := Aside0.mk hr0_1
 have HC0_1 := Aside0.mk hc0_1
 clear hr0_1 hc0_1
 have HB := Aside0.mk (Below.refl w.heap.size w)
 have H : ((impl_IsFlight.f l0_0 l0_1).bind fun t157 => (if t157 = true then ((impl_within.f a1 0 10).bind fun t158 => (if t158 = true then ((impl_within.f a2 0 10).bind fun t159 => (some t159)) else (some false))) else (some false))) = some r := h
 clear h
 replace H := Option.bind_eq_some_iff.mp H
 obtain ⟨t157, A40, H⟩ := H
 replace H : (if t157 = true then ((impl_within.f a1 0 10).bind fun t158 => (if t158 = true then ((impl_within.f a2 0 10).bind fun t159 => (some t159)) else (some false))) else (some false)) = some r := H
 have A4 := Aside0.mk A40
 clear A40
 by_cases c5 : t157 = true
 ·subst c5
  have H1 : ((impl_within.f a1 0 10).bind fun t158 => (if t158 = true then ((impl_within.f a2 0 10).bind fun t159 => (some t159)) else (some false))) = some r := by rw [if_pos rfl] at H; exact H
  clear H
  have H := H1
  clear H1
  replace H := Option.bind_eq_some_iff.mp H
  obtain ⟨t158, A60, H⟩ := H
  replace H : (if t158 = true then ((impl_within.f a2 0 10).bind fun t159 => (some t159)) else (some false)) = some r := H
  have A6 := Aside0.mk A60
  clear A60
  by_cases c7 : t158 = true
  ·subst c7
   have H1 : ((impl_within.f a2 0 10).bind fun t159 => (some t159)) = some r := by rw [if_pos rfl] at H; exact H
   clear H
   have H := H1
   clear H1
   replace H := Option.bind_eq_some_iff.mp H
   obtain ⟨t159, A80, H⟩ := H
   replace H : (some t159) = some r := H
   have A8 := Aside0.mk A80
   clear A80
   obtain rfl := Option.some.inj H
   go_enter Try.func71, Try.ntmps71
   go_wp2_with (first | ((with_reducible refine gate_dst (N := 3) rfl ?_); refine box_event ?hg (N := 3) ?hd (cs := #[.slice A0_0 l0_0.length c0_0, .slice A0_1 l0_1.length c0_1]) (t := 61) ?hr ?_; (case hd => rfl); (case hg => rfl); (case hr => first | (go_simp; done) | (go_simp; rfl)); intro gb156 hg w9 hbox hb; have BK156 := Aside0.mk (hbox); have GW156 := xg HB hg; have GE156 := xg HB hg; replace HB := xp HB hb; clear hb hbox hg; have hcz10_0 : w9.cell? ⟨gb156, 0, none⟩ = some (.slice A0_0 l0_0.length c0_0) := (blk_cell BK156.out 0).trans rfl; have hcz10_1 : w9.cell? ⟨gb156, 1, none⟩ = some (.slice A0_1 l0_1.length c0_1) := (blk_cell BK156.out 1).trans rfl; have hfz10_0 := blk_frozen BK156.out 0; have hfz10_1 := blk_frozen BK156.out 1) | ((with_reducible refine gate_callee (f := 100) rfl ?_); refine goesL_ (some 8) rfl rfl Try.func100 (by kernel_rfl) rfl #[.agg #[.slice A0_0 l0_0.length c0_0, .slice A0_1 l0_1.length c0_1]] rfl (by (try simp only [List.map_toArray, List.map_cons, List.map_nil]); first | done | rfl | (simp only [List.length_drop, List.length_take]; rfl)) ?_; (with_reducible refine (impl_IsFlight.calls _ _ l0_0 _ _ l0_1 true _ ?side1 ?side2 ?side3 ?side4 A4.out).mono ?_); (case side1 => exact xd ((Kd.C_below HR0_0.out HB.out))); (case side2 => exact HC0_0.out); (case side3 => exact xd ((Kd.C_below HR0_1.out HB.out))); (case side4 => exact HC0_1.out); rintro e w11 ⟨rfl, hb⟩; refine ⟨_, rfl, ?_⟩; replace BK156 := xk BK156 hb; replace HB := xp HB hb; (try clear hb); (try clear hb2); (try clear hk); (try clear hi)) | (go_at_call 94; (with_reducible refine (impl_within.calls a1 0 10 true _ A6.out).mono ?_); rintro e w' ⟨rfl, ⟨nd, rfl⟩⟩) | (go_at_call 94; (with_reducible refine (impl_within.calls a2 0 10 t159 _ A8.out).mono ?_); rintro e w' ⟨rfl, ⟨nd, rfl⟩⟩))
   go_ret
   exact ⟨by first | rfl | (simp [errW_none, errW_some] <;> rfl) | (simp [*, errW_none, errW_some] <;> rfl), by repeat (first | (with_reducible first | exact HB.out | apply below_alloc | apply pw_below_drewN | apply below_drew1 | refine below_set ?_ GE156.out) | exact HB.out)⟩
  ·replace c7 := Bool.eq_false_iff.mpr c7
   subst c7
   have H1 : (some false) = some r := by rw [if_neg (show ¬ (false = true) by decide)] at H; exact H
   clear H
   have H := H1
   clear H1
   obtain rfl := Option.some.inj H
   go_enter Try.func71, Try.ntmps71
   go_wp2_with (first | ((with_reducible refine gate_dst (N := 3) rfl ?_); refine box_event ?hg (N := 3) ?hd (cs := #[.slice A0_0 l0_0.length c0_0, .slice A0_1 l0_1.length c0_1]) (t := 61) ?hr ?_; (case hd => rfl); (case hg => rfl); (case hr => first | (go_simp; done) | (go_simp; rfl)); intro gb156 hg w12 hbox hb; have BK156 := Aside0.mk (hbox); have GW156 := xg HB hg; have GE156 := xg HB hg; replace HB := xp HB hb; clear hb hbox hg; have hcz13_0 : w12.cell? ⟨gb156, 0, none⟩ = some (.slice A0_0 l0_0.length c0_0) := (blk_cell BK156.out 0).trans rfl; have hcz13_1 : w12.cell? ⟨gb156, 1, none⟩ = some (.slice A0_1 l0_1.length c0_1) := (blk_cell BK156.out 1).trans rfl; have hfz13_0 := blk_frozen BK156.out 0; have hfz13_1 := blk_frozen BK156.out 1) | ((with_reducible refine gate_callee (f := 100) rfl ?_); refine goesL_ (some 8) rfl rfl Try.func100 (by kernel_rfl) rfl #[.agg #[.slice A0_0 l0_0.length c0_0, .slice A0_1 l0_1.length c0_1]] rfl (by (try simp only [List.map_toArray, List.map_cons, List.map_nil]); first | done | rfl | (simp only [List.length_drop, List.length_take]; rfl)) ?_; (with_reducible refine (impl_IsFlight.calls _ _ l0_0 _ _ l0_1 true _ ?side1 ?side2 ?side3 ?side4 A4.out).mono ?_); (case side1 => exact xd ((Kd.C_below HR0_0.out HB.out))); (case side2 => exact HC0_0.out); (case side3 => exact xd ((Kd.C_below HR0_1.out HB.out))); (case side4 => exact HC0_1.out); rintro e w14 ⟨rfl, hb⟩; refine ⟨_, rfl, ?_⟩; replace BK156 := xk BK156 hb; replace HB := xp HB hb; (try clear hb); (try clear hb2); (try clear hk); (try clear hi)) | (go_at_call 94; (with_reducible refine (impl_within.calls a1 0 10 false _ A6.out).mono ?_); rintro e w' ⟨rfl, ⟨nd, rfl⟩⟩))
   go_ret
   exact ⟨by first | rfl | (simp [errW_none, errW_some] <;> rfl) | (simp [*, errW_none, errW_some] <;> rfl), by repeat (first | (with_reducible first | exact HB.out | apply below_alloc | apply pw_below_drewN | apply below_drew1 | refine below_set ?_ GE156.out) | exact HB.out)⟩
 ·replace c5 := Bool.eq_false_iff.mpr c5
  subst c5
  have H1 : (some false) = some r := by rw [if_neg (show ¬ (false = true) by decide)] at H; exact H
  clear H
  have H := H1
  clear H1
  obtain rfl := Option.some.inj H
  go_enter Try.func71, Try.ntmps71
  go_wp2_with (first | ((with_reducible refine gate_dst (N := 3) rfl ?_); refine box_event ?hg (N := 3) ?hd (cs := #[.slice A0_0 l0_0.length c0_0, .slice A0_1 l0_1.length c0_1]) (t := 61) ?hr ?_; (case hd => rfl); (case hg => rfl); (case hr => first | (go_simp; done) | (go_simp; rfl)); intro gb156 hg w15 hbox hb; have BK156 := Aside0.mk (hbox); have GW156 := xg HB hg; have GE156 := xg HB hg; replace HB := xp HB hb; clear hb hbox hg; have hcz16_0 : w15.cell? ⟨gb156, 0, none⟩ = some (.slice A0_0 l0_0.length c0_0) := (blk_cell BK156.out 0).trans rfl; have hcz16_1 : w15.cell? ⟨gb156, 1, none⟩ = some (.slice A0_1 l0_1.length c0_1) := (blk_cell BK156.out 1).trans rfl; have hfz16_0 := blk_frozen BK156.out 0; have hfz16_1 := blk_frozen BK156.out 1) | ((with_reducible refine gate_callee (f := 100) rfl ?_); refine goesL_ (some 8) rfl rfl Try.func100 (by kernel_rfl) rfl #[.agg #[.slice A0_0 l0_0.length c0_0, .slice A0_1 l0_1.length c0_1]] rfl (by (try simp only [List.map_toArray, List.map_cons, List.map_nil]); first | done | rfl | (simp only [List.length_drop, List.length_take]; rfl)) ?_; (with_reducible refine (impl_IsFlight.calls _ _ l0_0 _ _ l0_1 false _ ?side1 ?side2 ?side3 ?side4 A4.out).mono ?_); (case side1 => exact xd ((Kd.C_below HR0_0.out HB.out))); (case side2 => exact HC0_0.out); (case side3 => exact xd ((Kd.C_below HR0_1.out HB.out))); (case side4 => exact HC0_1.out); rintro e w17 ⟨rfl, hb⟩; refine ⟨_, rfl, ?_⟩; replace BK156 := xk BK156 hb; replace HB := xp HB hb; (try clear hb); (try clear hb2); (try clear hk); (try clear hi)))
  go_ret
  exact ⟨by first | rfl | (simp [errW_none, errW_some] <;> rfl) | (simp [*, errW_none, errW_some] <;> rfl), by repeat (first | (with_reducible first | exact HB.out | apply below_alloc | apply pw_below_drewN | apply below_drew1 | refine below_set ?_ GE156.out) | exact HB.out)⟩

-- NOT PRINTED: function 72 (impl_ordersOf)

/-! ### impl_filled: function 101 -/
def impl_filled.f (a0 : Bool) (a1 : Bool) : Option (Int) := if a0 = true then (some 1) else (if a1 = true then (some 0) else (some 1))
set_option maxHeartbeats 8000000 in
set_option maxRecDepth 100000 in
theorem impl_filled.calls (a0 : Bool) (a1 : Bool) (r : Int) (w : World) (h : impl_filled.f a0 a1 = some r) :
  Calls Try.prog 101 #[.bool a0, .bool a1] w fun e w' => e = .returned (.int .i64 r) ∧ Drawn0 w w' := by
 have H : (if a0 = true then (some 1) else (if a1 = true then (some 0) else (some 1))) = some r := h
 clear h
 by_cases c3 : a0 = true
 ·subst c3
  have H1 : (some 1) = some r := by rw [if_pos rfl] at H; exact H
  clear H
  have H := H1
  clear H1
  obtain rfl := Option.some.inj H
  go_enter Try.func101, Try.ntmps101
  go_wp2
  go_ret
  exact ⟨by first | rfl | (simp; done) | (simp [*]; done), by repeat (first | exact Drawn0.refl _ | apply Drawn0.step)⟩
 ·replace c3 := Bool.eq_false_iff.mpr c3
  subst c3
  have H1 : (if a1 = true then (some 0) else (some 1)) = some r := by rw [if_neg (show ¬ (false = true) by decide)] at H; exact H
  clear H
  have H := H1
  clear H1
  by_cases c4 : a1 = true
  ·subst c4
   have H1 : (some 0) = some r := by rw [if_pos rfl] at H; exact H
   clear H
   have H := H1
   clear H1
   obtain rfl := Option.some.inj H
   go_enter Try.func101, Try.ntmps101
   go_wp2
   go_ret
   exact ⟨by first | rfl | (simp; done) | (simp [*]; done), by repeat (first | exact Drawn0.refl _ | apply Drawn0.step)⟩
  ·replace c4 := Bool.eq_false_iff.mpr c4
   subst c4
   have H1 : (some 1) = some r := by rw [if_neg (show ¬ (false = true) by decide)] at H; exact H
   clear H
   have H := H1
   clear H1
   obtain rfl := Option.some.inj H
   go_enter Try.func101, Try.ntmps101
   go_wp2
   go_ret
   exact ⟨by first | rfl | (simp; done) | (simp [*]; done), by repeat (first | exact Drawn0.refl _ | apply Drawn0.step)⟩

/-! ### impl_orders_fillings: function 74 -/
theorem ord_laid : laidOutB Try.prog = true := by kernel_rfl
theorem ord_row : (133 : TypeId) < Try.prog.types.size := of_decide_eq_true (by kernel_rfl)
theorem ord_wide : (match Try.prog.underlying 133 with | some (.array _ _) | some (.struct _) => true | _ => false) = true := by rw [Try.underlying133]
set_option maxRecDepth 100000 in
theorem ord_keyed : Maps.Keyed Try.prog 133 := Maps.Keyed.of_law (deep_law_laid ord_laid (m := 2) (by omega) ord_row (by kernel_rfl) ord_wide)
def keyv (u d f : Int) : Value := .agg #[.int .i64 u, .int .i64 d, .int .i64 f]
theorem ord_cells3 : Try.prog.cellsOf 3 = 1 := by kernel_rfl
theorem ord_cells : Try.prog.cellsOf 133 = 3 := by kernel_rfl
theorem ord_size : ∃ m, Try.prog.types.size = m + 1 := ⟨Try.prog.types.size - 1, by have : (133 : Nat) < Try.prog.types.size := ord_row; omega⟩
theorem ord_key (u d f : Int) (hu : (Lit.int .i64 u).wf = true) (hd : (Lit.int .i64 d).wf = true) (hf : (Lit.int .i64 f).wf = true) : ∃ kl, keyOf Try.prog 133 (keyv u d f) = some kl := by
 have h1 : Try.prog.keyType 133 = true := by kernel_rfl
 have h2 : (keyv u d f).formed Try.prog 133 = true := by simp [keyv, Value.formed, Try.underlying133, ord_cells]
 obtain ⟨m, hm⟩ := ord_size
 have h3 : Try.prog.keyLits (Try.prog.types.size + 1) 133 (keyv u d f).cells.toList = some [.int .i64 u, .int .i64 d, .int .i64 f] := by
  rw [hm]
  simp [Program.keyLits, keyv, Value.cells, Try.underlying133, Try.underlying3, ord_cells, ord_cells3, List.range_succ, hu, hd, hf]
 unfold keyOf
 rw [Try.underlying133]
 simp only [h1, h2, h3, Bool.and_self, if_true, Option.map_some]
 exact ⟨_, rfl⟩
theorem keyv_inj {u d f u' d' f' : Int} (h : keyv u d f = keyv u' d' f') : u = u' ∧ d = d' ∧ f = f' := by
 simp [keyv] at h
 exact ⟨h.1, h.2.1, h.2.2⟩
def fl (b : Bool) : Int := if b = true then 0 else 1
theorem fl_inj {a b : Bool} (h : fl a = fl b) : a = b := by revert h; cases a <;> cases b <;> simp [fl]
/-- the fillings of the highest chamber in a best order -/
def best (bet : Int → Int → Int) : Nat → Nat → Bool → Int
 | 0, 0, _ => 0
 | u + 1, 0, f => wrap64 (1 + best bet u 0 true)
 | 0, d + 1, f => wrap64 (fl f + best bet 0 d false)
 | u + 1, d + 1, f => bet (wrap64 (1 + best bet u (d + 1) true)) (wrap64 (fl f + best bet (u + 1) d false))
termination_by u d => u + d
def ordR (v : Value) : Option (DataW Unit × List MemPlace) := some (.lit (.bool true), [])
/-- block b holds a map whose entries tell the truth -/
def MapOk (bet : Int → Int → Int) (b n : Nat) (w : World) : Prop :=
 ∃ es clock, w.heap[b]? = some (.map es clock) ∧ WideElems.Fit Try.prog 133 ordR es clock ∧ es.size ≤ n ∧ ∀ x ∈ es.toList, ∀ (u d : Nat) (f : Bool), x.key = keyv u d (fl f) → x.val = .int .i64 (best bet u d f)
theorem MapOk.new (bet : Int → Int → Int) (w : World) : MapOk bet w.heap.size 0 (w.alloc (.map #[] 0)) :=
 ⟨#[], 0, (MapKept.heap_alloc w _).1, ⟨by simp, MapKept.stamped_empty 0, by simp⟩, Nat.le_refl _, by simp⟩
theorem MapOk.same {bet : Int → Int → Int} {b n : Nat} {w w' : World} (h : MapOk bet b n w) (he : w'.heap[b]? = w.heap[b]?) : MapOk bet b n w' := by
 obtain ⟨es, clock, hb, r⟩ := h
 exact ⟨es, clock, he.trans hb, r⟩
theorem MapOk.lt {bet : Int → Int → Int} {b n : Nat} {w : World} (h : MapOk bet b n w) : b < w.heap.size := by
 obtain ⟨es, clock, hb, r⟩ := h
 exact (Array.getElem?_eq_some_iff.1 hb).1
theorem MapOk.kept {bet : Int → Int → Int} {b n : Nat} {w w' : World} {S : Nat → Prop} (h : MapOk bet b n w) (hk : Kept w w' S) (hn : ¬ S b) : MapOk bet b n w' := h.same (hk.2 b h.lt hn)
theorem MapOk.mono {bet : Int → Int → Int} {b n n' : Nat} {w : World} (h : MapOk bet b n w) (hn : n ≤ n') : MapOk bet b n' w := by
 obtain ⟨es, clock, hb, F, hs, r⟩ := h
 exact ⟨es, clock, hb, F, Nat.le_trans hs hn, r⟩
theorem ord_zero (w : World) : (zeroValue 3).run Try.prog w = .ok (.int .i64 0) w := by kernel_rfl
theorem ord_wf (n : Nat) (h : n ≤ 10) : (Lit.int .i64 (n : Int)).wf = true := by
 simp [Lit.wf, IntKind.min, IntKind.max, IntKind.signed, IntKind.bits]; omega
theorem fl_wf (b : Bool) : (Lit.int .i64 (fl b)).wf = true := by cases b <;> decide
theorem MapOk.look {bet : Int → Int → Int} {b n : Nat} {w : World} (h : MapOk bet b n w) (u d : Nat) (f : Bool) (hu : u ≤ 10) (hd : d ≤ 10) :
  (Instr.lookup 107 (.map (some b)) (keyv u d (fl f)) true).run Try.prog w = .ok (.tuple #[.int .i64 0, .bool false]) w ∨ (Instr.lookup 107 (.map (some b)) (keyv u d (fl f)) true).run Try.prog w = .ok (.tuple #[.int .i64 (best bet u d f), .bool true]) w := by
 obtain ⟨es, clock, hb, F, hs, hr⟩ := h
 obtain ⟨kl, hk⟩ := ord_key u d (fl f) (ord_wf u hu) (ord_wf d hd) (fl_wf f)
 rcases Maps.fit_look true ord_keyed Try.underlying107 (ord_zero w) hb F hk with ⟨hrun, _⟩ | ⟨e0, y, hm, hkey, hrun, _⟩
 ·exact .inl hrun
 ·right
  rw [hr e0 hm u d f hkey] at hrun
  exact hrun
open Go.ChangeMaps Go.MapKept in
theorem MapOk.store {bet : Int → Int → Int} {b n : Nat} {w : World} (h : MapOk bet b n w) (u d : Nat) (f : Bool) (hu : u ≤ 10) (hd : d ≤ 10) (hn : n < maxLen) :
  ∃ w', (Instr.mapUpdate 107 (.map (some b)) (keyv u d (fl f)) (.int .i64 (best bet u d f))).run Try.prog w = .ok () w' ∧ MapOk bet b (n + 1) w' ∧ w.grownBy w' (some b) ∧ Kept w w' (fun k => k = b) := by
 obtain ⟨es, clock, hb, F, hs, hr⟩ := h
 obtain ⟨kl, hk⟩ := ord_key u d (fl f) (ord_wf u hu) (ord_wf d hd) (fl_wf f)
 obtain ⟨es', clock', hrun, F', hput, _, _, hl⟩ := Maps.fit_store (R' := ordR) ord_keyed Try.underlying107 hb F (Nat.lt_of_le_of_lt hs hn) (fun _ _ _ _ hz => hz) hk (yv := (.lit (.bool true), [])) (val := .int .i64 (best bet u d f)) rfl
 refine ⟨_, hrun, ⟨es', clock', heap_setBlock_same hb _, F', ?_, ?_⟩, ⟨rfl, rfl, rfl, by simp [setBlock], fun i _ hi => heap_setBlock_other hb _ (fun e => hi (by rw [e]))⟩, ⟨by simp [setBlock], fun i _ hi => heap_setBlock_other hb _ hi⟩⟩
 ·have e1 : es'.size = ((es'.toList.map (WideElems.rg Try.prog 133 ordR)).foldr DataW.insert []).length := by rw [length_sorted]; simp
  rw [e1, hput]
  unfold putKey
  rw [length_insert]
  have e2 := List.length_filter_le (notKey kl) ((es.toList.map (WideElems.rg Try.prog 133 ordR)).foldr DataW.insert [])
  rw [length_sorted] at e2
  simp at e2
  omega
 ·intro x hx u' d' f' hx'
  rcases hl x hx with ⟨h1, _⟩ | ⟨h1, h2⟩
  ·exact hr x h1 u' d' f' hx'
  ·obtain ⟨a, b, c⟩ := keyv_inj (h1.symm.trans hx')
   have a' : u = u' := by omega
   have b' : d = d' := by omega
   rw [h2, a', b', fl_inj c]
theorem MapOk.look_all {bet : Int → Int → Int} {b n : Nat} {w : World} (h : MapOk bet b n w) (u d : Nat) (f : Bool) (hu : u ≤ 10) (hd : d ≤ 10) :
  (∀ W : World, W.heap[b]? = w.heap[b]? → (Instr.lookup 107 (.map (some b)) (keyv u d (fl f)) true).run Try.prog W = .ok (.tuple #[.int .i64 0, .bool false]) W) ∨ (∀ W : World, W.heap[b]? = w.heap[b]? → (Instr.lookup 107 (.map (some b)) (keyv u d (fl f)) true).run Try.prog W = .ok (.tuple #[.int .i64 (best bet u d f), .bool true]) W) := by
 obtain ⟨es, clock, hb, F, hs, hr⟩ := h
 obtain ⟨kl, hk⟩ := ord_key u d (fl f) (ord_wf u hu) (ord_wf d hd) (fl_wf f)
 by_cases hex : ∃ x ∈ es.toList, x.key = keyv u d (fl f)
 ·right
  intro W hW
  rcases Maps.fit_look true ord_keyed Try.underlying107 (ord_zero W) (hW.trans hb) F hk with ⟨hrun, hno, _⟩ | ⟨e0, y, hm, hkey, hrun, _⟩
  ·obtain ⟨x, hx, hx'⟩ := hex
   exact absurd hx' (hno x hx)
  ·rw [hr e0 hm u d f hkey] at hrun
   exact hrun
 ·left
  intro W hW
  rcases Maps.fit_look true ord_keyed Try.underlying107 (ord_zero W) (hW.trans hb) F hk with ⟨hrun, hno, _⟩ | ⟨e0, y, hm, hkey, hrun, _⟩
  ·exact hrun
  ·exact absurd ⟨e0, hm, hkey⟩ hex
theorem lookup_run {P : Program} (w : World) {ops : Array Oper} {rest : List Oper} {o : Oper} {a : Act} {Q : Exit → Act → World → Prop} (hg : o.guard = none) (m x : Operand) (t : TypeId) (hop : o.op = Op.lookup t m x true)
  (mv key : Value) (hm : a.eval m = mv) (hx : a.eval x = key) (v : Value) (hrun : (Instr.lookup t mv key true).run P w = .ok v w) (hK : wpList P ops Q rest (a.put o.dst v) w) : wpList P ops Q (o :: rest) a w := by
 refine wpList_plain hg fun K' hK' => ?_
 unfold Oper.wp
 simp [execOp, hop, hm, hx, hrun, Result.andThen]
 exact hK' _ _ hK
theorem update_run {P : Program} (w : World) {ops : Array Oper} {rest : List Oper} {o : Oper} {a : Act} {Q : Exit → Act → World → Prop} (hg : o.guard = none) (m x v : Operand) (t : TypeId) (hop : o.op = Op.mapUpdate t m x v)
  (mv key val : Value) (hm : a.eval m = mv) (hx : a.eval x = key) (hv : a.eval v = val) (w' : World) (hrun : (Instr.mapUpdate t mv key val).run P w = .ok () w') (hK : wpList P ops Q rest (a.put o.dst undef) w') : wpList P ops Q (o :: rest) a w := by
 refine wpList_plain hg fun K' hK' => ?_
 unfold Oper.wp
 simp [execOp, hop, hm, hx, hv, hrun, Result.andThen]
 exact hK' _ _ hK
def cost : Nat → Nat
 | 0 => 1
 | m + 1 => 2 * cost m + 1
abbrev ordV (g b : Nat) : Value := .agg #[.func (.func g) #[] #[], .map (some b)]
def FillsOk (g : Nat) (bet : Int → Int → Int) (m : Nat) : Prop := ∀ (w0 : World) (x y : Int) (u d : Nat) (f : Bool) (b n : Nat) (w : World), x = (u : Int) → y = (d : Int) → u + d = m → u ≤ 10 → d ≤ 10 → MapOk bet b n w → w0.heap.size ≤ b → Below w0.heap.size w0 w → n + cost m < maxLen →
 Calls Try.prog 74 #[ordV g b, .int .i64 x, .int .i64 y, .bool f] w fun e w' => e = .returned (.int .i64 (best bet u d f)) ∧ MapOk bet b (n + cost m) w' ∧ Below w0.heap.size w0 w' ∧ Kept w w' (fun k => k = b)
theorem filled_val (f : Bool) : impl_filled.f false f = some (fl f) := by cases f <;> rfl
theorem hw_new0 (w : World) (o : Obj) : (w.alloc o).heap[w.heap.size]? = some o := by unfold World.alloc; exact Array.getElem?_push_size
theorem hw_next (w : World) (m : Nat) (o p : Obj) : ((((w.alloc o).drewN m).alloc p).heap[w.heap.size]? = some o ∧ (((w.alloc o).drewN m).alloc p).heap[w.heap.size + 1]? = some p) := by
 have h1 : ((w.alloc o).drewN m).heap[w.heap.size]? = some o := hw_new0 w o
 have h2 : ((w.alloc o).drewN m).heap.size = w.heap.size + 1 := World.size_alloc w o
 refine ⟨blk_alloc h1 p, ?_⟩
 have := hw_new0 ((w.alloc o).drewN m) p
 rwa [h2] at this
theorem below_next {w0 w : World} (hB : Below w0.heap.size w0 w) (m : Nat) (o p : Obj) : Below w0.heap.size w0 (((w.alloc o).drewN m).alloc p) := below_alloc (pw_below_drewN (below_alloc hB o) m) p
theorem kept_next (w : World) (m : Nat) (o p : Obj) (S : Nat → Prop) : Kept w (((w.alloc o).drewN m).alloc p) S := (((Kept.refl w S).alloc o).drewN m).alloc p
theorem block_next (w : World) (m : Nat) (o p : Obj) (b : Nat) (hb : b < w.heap.size) : (((w.alloc o).drewN m).alloc p).heap[b]? = w.heap[b]? := (below_next (Below.refl w.heap.size w) m o p).block b hb
set_option maxHeartbeats 1000000 in
set_option maxRecDepth 100000 in
theorem fills_found (g : Nat) (bet : Int → Int → Int) (w0 : World) (x y : Int) (u d : Nat) (f : Bool) (b n : Nat) (w : World) (hx : x = (u : Int)) (hy : y = (d : Int)) (hM : MapOk bet b n w) (hB : Below w0.heap.size w0 w)
  (hL : ∀ W : World, W.heap[b]? = w.heap[b]? → (Instr.lookup 107 (.map (some b)) (keyv u d (fl f)) true).run Try.prog W = .ok (.tuple #[.int .i64 (best bet u d f), .bool true]) W) :
  Calls Try.prog 74 #[ordV g b, .int .i64 x, .int .i64 y, .bool f] w fun e w' => e = .returned (.int .i64 (best bet u d f)) ∧ MapOk bet b n w' ∧ Below w0.heap.size w0 w' ∧ Kept w w' (fun k => k = b) := by
 have hu109 := Try.underlying109
 have hu133 := Try.underlying133
 rw [← hx, ← hy] at hL
 have HL := Aside0.mk hL
 have HM := Aside0.mk hM
 have HB := Aside0.mk hB
 clear hL hM hB hx hy
 go_enter Try.func74, Try.ntmps74
 go_wp2_with (go_at_call 101; refine (impl_filled.calls false f (fl f) _ (filled_val f)).mono ?_; rintro e w1 ⟨rfl, ⟨m, rfl⟩⟩; have hl := HL.out (((w.alloc (.cells #[.func (.func g) #[] #[], .map (some b)] 109)).drewN m).alloc (.cells #[.int .i64 x, .int .i64 y, .int .i64 (fl f)] 133)) (block_next w m _ _ b HM.out.lt); dsimp only [keyv] at hl)
 go_ret
 exact ⟨rfl, HM.out.same (block_next w m _ _ b HM.out.lt), below_next HB.out m _ _, kept_next w m _ _ _⟩
def BehindOk (g : Nat) (bet : Int → Int → Int) (m : Nat) (up : Bool) : Prop := ∀ (w0 : World) (x y : Int) (u d : Nat) (f : Bool) (b n : Nat) (w : World), (if up = true then x = (u : Int) + 1 ∧ y = (d : Int) ∧ u + 1 ≤ 10 ∧ d ≤ 10 else x = (u : Int) ∧ y = (d : Int) + 1 ∧ u ≤ 10 ∧ d + 1 ≤ 10) → u + d = m → MapOk bet b n w → w0.heap.size ≤ b → Below w0.heap.size w0 w → n + cost m < maxLen →
 Calls Try.prog 73 #[ordV g b, .int .i64 x, .int .i64 y, .bool f, .bool up] w fun e w' => e = .returned (.int .i64 (wrap64 ((if up = true then 1 else fl f) + best bet u d up))) ∧ MapOk bet b (n + cost m) w' ∧ Below w0.heap.size w0 w' ∧ Kept w w' (fun k => k = b)
set_option maxHeartbeats 2000000 in
set_option maxRecDepth 100000 in
theorem fills_up (g : Nat) (bet : Int → Int → Int) (m : Nat) (hBe : BehindOk g bet m true) (w0 : World) (x y : Int) (u : Nat) (f : Bool) (b n : Nat) (w : World) (hx : x = (u : Int) + 1) (hy : y = 0) (hm : u = m) (hv : u + 1 ≤ 10) (hM : MapOk bet b n w) (h0 : w0.heap.size ≤ b) (hB : Below w0.heap.size w0 w) (hn : n + cost (m + 1) < maxLen)
  (hL : ∀ W : World, W.heap[b]? = w.heap[b]? → (Instr.lookup 107 (.map (some b)) (keyv x y (fl f)) true).run Try.prog W = .ok (.tuple #[.int .i64 0, .bool false]) W) :
  Calls Try.prog 74 #[ordV g b, .int .i64 x, .int .i64 y, .bool f] w fun e w' => e = .returned (.int .i64 (best bet (u + 1) 0 f)) ∧ MapOk bet b (n + cost (m + 1)) w' ∧ Below w0.heap.size w0 w' ∧ Kept w w' (fun k => k = b) := by
 have hu109 := Try.underlying109
 have hu133 := Try.underlying133
 have hc : n + cost m + 1 ≤ n + cost (m + 1) := by simp only [cost]; omega
 have HL := Aside0.mk hL
 have HM := Aside0.mk hM
 have HB := Aside0.mk hB
 have hcall : Aside0 (∀ (W : World), MapOk bet b n W → Below w0.heap.size w0 W → Calls Try.prog 73 #[ordV g b, .int .i64 x, .int .i64 y, .bool f, .bool true] W fun e w' => e = .returned (.int .i64 (wrap64 (1 + best bet u 0 true))) ∧ MapOk bet b (n + cost m) w' ∧ Below w0.heap.size w0 w' ∧ Kept W w' (fun k => k = b)) := ⟨fun W hM hB => (hBe w0 x y u 0 f b n W (by simp only [if_true]; omega) (by omega) hM h0 hB (by omega)).mono (fun e w' h => h)⟩
 have e1 : best bet (u + 1) 0 f = wrap64 (1 + best bet u 0 true) := by rw [best]
 have HST := Aside0.mk (fun (W : World) (hM : MapOk bet b (n + cost m) W) => hM.store (u + 1) 0 f (by omega) (by omega) (by omega))
 have c1 : decide (0 < x) = true := decide_eq_true (by omega)
 have c2 : decide (0 < y) = false := decide_eq_false (by omega)
 have hxy : (keyv ((u + 1 : Nat) : Int) ((0 : Nat) : Int) (fl f)) = .agg #[.int .i64 x, .int .i64 y, .int .i64 (fl f)] := by rw [hx, hy]; rfl
 have HN := Aside0.mk hc
 rw [e1] at HST
 rw [e1]
 rw [hxy] at HST
 clear hL hM hB hx hy e1 hxy hBe hn hm hv hc
 go_enter Try.func74, Try.ntmps74
 go_wp2_with (first | (go_at_call 101; refine (impl_filled.calls false f (fl f) _ (filled_val f)).mono ?_; rintro e w1 ⟨rfl, ⟨m1, rfl⟩⟩; have hl := HL.out (((w.alloc (.cells #[.func (.func g) #[] #[], .map (some b)] 109)).drewN m1).alloc (.cells #[.int .i64 x, .int .i64 y, .int .i64 (fl f)] 133)) (block_next w m1 _ _ b HM.out.lt); dsimp only [keyv] at hl) | (go_at_call 73; refine (hcall.out _ (HM.out.same (block_next w m1 _ _ b HM.out.lt)) (below_next HB.out m1 _ _)).mono ?_; rintro e w2 ⟨rfl, hM2, hB2, hK2⟩; have HK0 := hw_next w m1 (.cells #[.func (.func g) #[] #[], .map (some b)] 109) (.cells #[.int .i64 x, .int .i64 y, .int .i64 (fl f)] 133); have hlt := HM.out.lt; have BK1 := blk_kept HK0.1 hK2 (by omega); have BK2 := blk_kept HK0.2 hK2 (by omega); have KK := Aside0.mk ((kept_next w m1 (.cells #[.func (.func g) #[] #[], .map (some b)] 109) (.cells #[.int .i64 x, .int .i64 y, .int .i64 (fl f)] 133) (fun k => k = b)).then_ hK2 (fun _ h => .inl h)); have HB2 := Aside0.mk hB2; obtain ⟨w3, hrun, hM3, hg3, hk3⟩ := HST.out _ hM2; have HM3 := Aside0.mk hM3; have KK3 := Aside0.mk (KK.out.then_ hk3 (fun _ h => .inl h)); have HB3 := Aside0.mk (pw_below_grown hB2 (some b) hB2.size hg3 (fun k hk => by have := Option.some.inj hk; omega)); clear hM2 hB2 hK2 HK0 hlt hM3 hg3 hk3 hl; have hc1 := (blk_cell BK1 1).trans rfl; have hk0 := (blk_cell BK2 0).trans rfl; have hk1 := (blk_cell BK2 1).trans rfl; have hk2 := (blk_cell BK2 2).trans rfl; clear BK1 BK2) | (at_mapUpdate; refine update_run _ rfl _ _ _ 107 rfl _ _ _ rfl rfl rfl w3 hrun ?_))
 go_ret
 exact ⟨rfl, HM3.out.mono HN.out, HB3.out, KK3.out⟩
set_option maxHeartbeats 2000000 in
set_option maxRecDepth 100000 in
theorem fills_down (g : Nat) (bet : Int → Int → Int) (m : Nat) (hBe : BehindOk g bet m false) (w0 : World) (x y : Int) (d : Nat) (f : Bool) (b n : Nat) (w : World) (hx : x = 0) (hy : y = (d : Int) + 1) (hm : d = m) (hv : d + 1 ≤ 10) (hM : MapOk bet b n w) (h0 : w0.heap.size ≤ b) (hB : Below w0.heap.size w0 w) (hn : n + cost (m + 1) < maxLen)
  (hL : ∀ W : World, W.heap[b]? = w.heap[b]? → (Instr.lookup 107 (.map (some b)) (keyv x y (fl f)) true).run Try.prog W = .ok (.tuple #[.int .i64 0, .bool false]) W) :
  Calls Try.prog 74 #[ordV g b, .int .i64 x, .int .i64 y, .bool f] w fun e w' => e = .returned (.int .i64 (best bet 0 (d + 1) f)) ∧ MapOk bet b (n + cost (m + 1)) w' ∧ Below w0.heap.size w0 w' ∧ Kept w w' (fun k => k = b) := by
 have hu109 := Try.underlying109
 have hu133 := Try.underlying133
 have hc : n + cost m + 1 ≤ n + cost (m + 1) := by simp only [cost]; omega
 have HL := Aside0.mk hL
 have HM := Aside0.mk hM
 have HB := Aside0.mk hB
 have hcall : Aside0 (∀ (W : World), MapOk bet b n W → Below w0.heap.size w0 W → Calls Try.prog 73 #[ordV g b, .int .i64 x, .int .i64 y, .bool f, .bool false] W fun e w' => e = .returned (.int .i64 (wrap64 (fl f + best bet 0 d false))) ∧ MapOk bet b (n + cost m) w' ∧ Below w0.heap.size w0 w' ∧ Kept W w' (fun k => k = b)) := ⟨fun W hM hB => (hBe w0 x y 0 d f b n W (by simp only [Bool.false_eq_true, if_false]; omega) (by omega) hM h0 hB (by omega)).mono (fun e w' h => h)⟩
 have e1 : best bet 0 (d + 1) f = wrap64 (fl f + best bet 0 d false) := by rw [best]
 have HST := Aside0.mk (fun (W : World) (hM : MapOk bet b (n + cost m) W) => hM.store 0 (d + 1) f (by omega) (by omega) (by omega))
 have c1 : decide (0 < x) = false := decide_eq_false (by omega)
 have c2 : decide (0 < y) = true := decide_eq_true (by omega)
 have hxy : (keyv ((0 : Nat) : Int) ((d + 1 : Nat) : Int) (fl f)) = .agg #[.int .i64 x, .int .i64 y, .int .i64 (fl f)] := by rw [hx, hy]; rfl
 have HN := Aside0.mk hc
 rw [e1] at HST
 rw [e1]
 rw [hxy] at HST
 clear hL hM hB hx hy e1 hxy hBe hn hm hv hc
 go_enter Try.func74, Try.ntmps74
 go_wp2_with (first | (go_at_call 101; refine (impl_filled.calls false f (fl f) _ (filled_val f)).mono ?_; rintro e w1 ⟨rfl, ⟨m1, rfl⟩⟩; have hl := HL.out (((w.alloc (.cells #[.func (.func g) #[] #[], .map (some b)] 109)).drewN m1).alloc (.cells #[.int .i64 x, .int .i64 y, .int .i64 (fl f)] 133)) (block_next w m1 _ _ b HM.out.lt); dsimp only [keyv] at hl) | (go_at_call 73; refine (hcall.out _ (HM.out.same (block_next w m1 _ _ b HM.out.lt)) (below_next HB.out m1 _ _)).mono ?_; rintro e w2 ⟨rfl, hM2, hB2, hK2⟩; have HK0 := hw_next w m1 (.cells #[.func (.func g) #[] #[], .map (some b)] 109) (.cells #[.int .i64 x, .int .i64 y, .int .i64 (fl f)] 133); have hlt := HM.out.lt; have BK1 := blk_kept HK0.1 hK2 (by omega); have BK2 := blk_kept HK0.2 hK2 (by omega); have KK := Aside0.mk ((kept_next w m1 (.cells #[.func (.func g) #[] #[], .map (some b)] 109) (.cells #[.int .i64 x, .int .i64 y, .int .i64 (fl f)] 133) (fun k => k = b)).then_ hK2 (fun _ h => .inl h)); have HB2 := Aside0.mk hB2; obtain ⟨w3, hrun, hM3, hg3, hk3⟩ := HST.out _ hM2; have HM3 := Aside0.mk hM3; have KK3 := Aside0.mk (KK.out.then_ hk3 (fun _ h => .inl h)); have HB3 := Aside0.mk (pw_below_grown hB2 (some b) hB2.size hg3 (fun k hk => by have := Option.some.inj hk; omega)); clear hM2 hB2 hK2 HK0 hlt hM3 hg3 hk3 hl; have hc1 := (blk_cell BK1 1).trans rfl; have hk0 := (blk_cell BK2 0).trans rfl; have hk1 := (blk_cell BK2 1).trans rfl; have hk2 := (blk_cell BK2 2).trans rfl; clear BK1 BK2) | (at_mapUpdate; refine update_run _ rfl _ _ _ 107 rfl _ _ _ rfl rfl rfl w3 hrun ?_))
 go_ret
 exact ⟨rfl, HM3.out.mono HN.out, HB3.out, KK3.out⟩
theorem behind_up_op1 : (opsOf Try.f73 2)[1]? = some { dst := (some 13), op := (Op.call { callee := (Callee.value (Operand.func 101)), args := #[(Operand.const (Value.bool true)), (Operand.tmp 12)], argTypes := #[4, 4] }), type := 3, pos := "l8_lock.go:213", after := #[{ on := 0, ground := Ground.data }], guard := none } := by kernel_rfl
theorem behind_up_op6 : (opsOf Try.f73 2)[6]? = some { dst := (some 18), op := (Op.call { callee := (Callee.value (Operand.func 74)), args := #[(Operand.tmp 14), (Operand.tmp 16), (Operand.tmp 17), (Operand.const (Value.bool true))], argTypes := #[109, 3, 3, 4] }), type := 3, pos := "l8_lock.go:213", after := #[{ on := 2, ground := Ground.data }, { on := 4, ground := Ground.data }, { on := 5, ground := Ground.data }, { on := 1, ground := Ground.chain }], guard := none } := by kernel_rfl
theorem behind_up_op7 : (opsOf Try.f73 2)[7]? = some { dst := (some 19), op := (Op.binOp BinOp.add 3 (Operand.tmp 13) (Operand.tmp 18) 3), type := 3, pos := "l8_lock.go:213", after := #[{ on := 1, ground := Ground.data }, { on := 6, ground := Ground.data }], guard := none } := by kernel_rfl
theorem behind_up_op8 : (opsOf Try.f73 2)[8]? = some { dst := (some 10), op := (Op.assign (Operand.tmp 19)), type := 3, pos := "l8_lock.go:213", after := #[{ on := 7, ground := Ground.data }, { on := 6, ground := Ground.chain }, { on := 0, ground := Ground.phase }, { on := 1, ground := Ground.phase }, { on := 2, ground := Ground.phase }, { on := 3, ground := Ground.phase }, { on := 4, ground := Ground.phase }, { on := 5, ground := Ground.phase }, { on := 6, ground := Ground.phase }, { on := 7, ground := Ground.phase }], guard := none } := by kernel_rfl
set_option maxHeartbeats 2000000 in
set_option maxRecDepth 100000 in
theorem behind_up.calls (g : Nat) (bet : Int → Int → Int) (m : Nat) (hF : FillsOk g bet m) : BehindOk g bet m true := by
 intro w0 x y u d f b n w hxy hm hM h0 hB hn
 have hxy' : x = (u : Int) + 1 ∧ y = (d : Int) ∧ u + 1 ≤ 10 ∧ d ≤ 10 := by simpa using hxy
 clear hxy
 obtain ⟨hx, hy, hu, hd⟩ := hxy'
 have hcall := Aside0.mk (fun (W : World) (hM : MapOk bet b n W) (hB : Below w0.heap.size w0 W) => hF w0 (wrap64 (x - 1)) y u d true b n W (by unfold wrap64; omega) hy hm (by omega) (by omega) hM h0 hB hn)
 have HM := Aside0.mk hM
 have HB := Aside0.mk hB
 have hu109 := Try.underlying109
 clear hF hM hB hx hy hu hd hm hn h0
 show Calls Try.prog 73 #[ordV g b, .int .i64 x, .int .i64 y, .bool f, .bool true] w fun e w' => e = .returned (.int .i64 (wrap64 (1 + best bet u d true))) ∧ _
 have HB0 := Aside0.mk (below_drew (below_alloc HB.out (.cells #[.func (.func g) #[] #[], .map (some b)] 109)))
 have BK := Aside0.mk (blk_drew (hw_new0 w (.cells #[.func (.func g) #[] #[], .map (some b)] 109)))
 have HM1 := Aside0.mk (HM.out.same (w' := (w.alloc (.cells #[.func (.func g) #[] #[], .map (some b)] 109)).drew) ((below_alloc (Below.refl w.heap.size w) (.cells #[.func (.func g) #[] #[], .map (some b)] 109)).block b HM.out.lt))
 have KK := Aside0.mk (((Kept.refl w (fun k => k = b)).alloc (.cells #[.func (.func g) #[] #[], .map (some b)] 109)).drew)
 have hlt := HM.out.lt
 go_enter Try.func73, Try.ntmps73
 go_wp2
 refine start_ (n := 9) (S := fun w' => w'.cell? ⟨w.heap.size, 0, none⟩ = some (.func (.func g) #[] #[]) ∧ w'.cell? ⟨w.heap.size, 1, none⟩ = some (.map (some b))) (ds := []) #[false, false, false, false, false, false, false, false, false] (by kernel_rfl) rfl rfl ⟨(blk_cell BK.out 0).trans rfl, (blk_cell BK.out 1).trans rfl⟩ (fun hHeld => ?_)
 refine pure_ (i := 0) (N := some 12) (v := ?_) (a' := ?_) #[true, false, false, false, false, false, false, false, false] rfl rfl (by kernel_rfl) (fun _ _ _ h => h) (Or.inl ⟨by rfl, ?_⟩) ?_ ?_
 rotate_left
 ·intro w'
  go_simp
  with_reducible rfl
 rotate_left
 ·simp only [Act.put, List.setIfInBounds_toArray, List.set_cons_zero, List.set_cons_succ, i64_w, i32_w]
  rfl
 refine take_ (i := 2) (N := some 14) (v := ?_) (a' := ?_) #[true, false, true, false, false, false, false, false, false] rfl rfl (by kernel_rfl) (fun _ _ _ h => h) (Or.inl ⟨by rfl, ?_⟩) hHeld ?_ ?_
 rotate_left
 ·rintro w' ⟨s0, s1⟩
  go_simp
  with_reducible rfl
 rotate_left
 ·simp only [Act.put, List.setIfInBounds_toArray, List.set_cons_zero, List.set_cons_succ, i64_w, i32_w]
  rfl
 refine pure_ (i := 3) (N := some 15) (v := ?_) (a' := ?_) #[true, false, true, true, false, false, false, false, false] rfl rfl (by kernel_rfl) (fun _ _ _ h => h) (Or.inl ⟨by rfl, ?_⟩) ?_ ?_
 rotate_left
 ·intro w'
  go_simp
  with_reducible rfl
 rotate_left
 ·simp only [Act.put, List.setIfInBounds_toArray, List.set_cons_zero, List.set_cons_succ, i64_w, i32_w]
  rfl
 refine pure_ (i := 4) (N := some 16) (v := ?_) (a' := ?_) #[true, false, true, true, true, false, false, false, false] rfl rfl (by kernel_rfl) (fun _ _ _ h => h) (Or.inl ⟨by rfl, ?_⟩) ?_ ?_
 rotate_left
 ·intro w'
  go_simp
  with_reducible rfl
 rotate_left
 ·simp only [Act.put, List.setIfInBounds_toArray, List.set_cons_zero, List.set_cons_succ, i64_w, i32_w]
  rfl
 refine pure_ (i := 5) (N := some 17) (v := ?_) (a' := ?_) #[true, false, true, true, true, true, false, false, false] rfl rfl (by kernel_rfl) (fun _ _ _ h => h) (Or.inl ⟨by rfl, ?_⟩) ?_ ?_
 rotate_left
 ·intro w'
  go_simp
  with_reducible rfl
 rotate_left
 ·simp only [Act.put, List.setIfInBounds_toArray, List.set_cons_zero, List.set_cons_succ, i64_w, i32_w]
  rfl
 refine one_ (i := 1) (N := some 13) #[true, true, true, true, true, true, false, false, false] behind_up_op1 rfl (by kernel_rfl) (by decide) (fun K hK => ?_)
 refine goes_ Try.func101 (by kernel_rfl) rfl #[.bool true, .bool f] (by rfl) rfl rfl (by (try simp only [List.map_toArray, List.map_cons, List.map_nil]); first | done | rfl) ?_
 refine (impl_filled.calls true f 1 _ rfl).mono ?_
 rintro e W ⟨rfl, ⟨m1, rfl⟩⟩
 refine ⟨_, rfl, ?_⟩
 refine hK.out _ _ hHeld (fun hHeld => ?_)
 clear hK K
 refine norm_ (a' := { tmps := #[.agg #[.func (.func g) #[] #[], .map (some b)], .int .i64 x, .int .i64 y, .bool f, .bool true, .pointer (some ⟨w.heap.size, 0, none⟩), undef, undef, undef, undef, .int .i64 0, .bool true, .bool f, .int .i64 1, .agg #[.func (.func g) #[] #[], .map (some b)], .int .i64 x, .int .i64 (wrap64 (x - 1)), .int .i64 y, undef, undef, undef, undef, undef, undef, undef, undef, undef, undef], defers := [] }) (by show Act.put _ (some 13) _ = _; simp only [Act.put, List.setIfInBounds_toArray, List.set_cons_zero, List.set_cons_succ]) ?_
 refine one_ (i := 6) (N := some 18) #[true, true, true, true, true, true, true, false, false] behind_up_op6 rfl (by kernel_rfl) (by decide) (fun K hK => ?_)
 refine goes_ Try.func74 (by kernel_rfl) rfl #[.agg #[.func (.func g) #[] #[], .map (some b)], .int .i64 (wrap64 (x - 1)), .int .i64 y, .bool true] (by rfl) rfl rfl (by (try simp only [List.map_toArray, List.map_cons, List.map_nil]); first | done | rfl) ?_
 refine (hcall.out ((w.alloc (.cells #[.func (.func g) #[] #[], .map (some b)] 109)).drew.drewN m1) (HM1.out.same rfl) (pw_below_drewN HB0.out m1)).mono ?_
 rintro e W ⟨rfl, hM2, hB2, hK2⟩
 have KK2 := (KK.out.drewN m1).then_ hK2 (fun _ h => .inl h)
 have BK2 := blk_kept (show ((w.alloc (.cells #[.func (.func g) #[] #[], .map (some b)] 109)).drew.drewN m1).heap[w.heap.size]? = _ from BK.out) hK2 (by omega)
 clear hHeld hcall
 refine ⟨_, rfl, ?_⟩
 refine hK.out _ _ ⟨(blk_cell BK2 0).trans rfl, (blk_cell BK2 1).trans rfl⟩ (fun hHeld => ?_)
 clear hK K
 refine norm_ (a' := { tmps := #[.agg #[.func (.func g) #[] #[], .map (some b)], .int .i64 x, .int .i64 y, .bool f, .bool true, .pointer (some ⟨w.heap.size, 0, none⟩), undef, undef, undef, undef, .int .i64 0, .bool true, .bool f, .int .i64 1, .agg #[.func (.func g) #[] #[], .map (some b)], .int .i64 x, .int .i64 (wrap64 (x - 1)), .int .i64 y, .int .i64 (best bet u d true), undef, undef, undef, undef, undef, undef, undef, undef, undef], defers := [] }) (by show Act.put _ (some 18) _ = _; simp only [Act.put, List.setIfInBounds_toArray, List.set_cons_zero, List.set_cons_succ]) ?_
 refine pure_ (i := 7) (N := some 19) (v := .int .i64 (wrap64 (1 + best bet u d true))) (a' := { tmps := #[.agg #[.func (.func g) #[] #[], .map (some b)], .int .i64 x, .int .i64 y, .bool f, .bool true, .pointer (some ⟨w.heap.size, 0, none⟩), undef, undef, undef, undef, .int .i64 0, .bool true, .bool f, .int .i64 1, .agg #[.func (.func g) #[] #[], .map (some b)], .int .i64 x, .int .i64 (wrap64 (x - 1)), .int .i64 y, .int .i64 (best bet u d true), .int .i64 (wrap64 (1 + best bet u d true)), undef, undef, undef, undef, undef, undef, undef, undef], defers := [] }) #[true, true, true, true, true, true, true, true, false] behind_up_op7 rfl (by kernel_rfl) (fun _ _ _ h => h) (Or.inl ⟨by rfl, ?_⟩) (by simp only [Act.put, List.setIfInBounds_toArray, List.set_cons_zero, List.set_cons_succ]) ?_
 ·intro w'
  go_simp
  first | done | (simp only [i64_w]; done) | rfl
 refine pure_ (i := 8) (N := some 10) (v := .int .i64 (wrap64 (1 + best bet u d true))) (a' := { tmps := #[.agg #[.func (.func g) #[] #[], .map (some b)], .int .i64 x, .int .i64 y, .bool f, .bool true, .pointer (some ⟨w.heap.size, 0, none⟩), undef, undef, undef, undef, .int .i64 (wrap64 (1 + best bet u d true)), .bool true, .bool f, .int .i64 1, .agg #[.func (.func g) #[] #[], .map (some b)], .int .i64 x, .int .i64 (wrap64 (x - 1)), .int .i64 y, .int .i64 (best bet u d true), .int .i64 (wrap64 (1 + best bet u d true)), undef, undef, undef, undef, undef, undef, undef, undef], defers := [] }) #[true, true, true, true, true, true, true, true, true] behind_up_op8 rfl (by kernel_rfl) (fun _ _ _ h => h) (Or.inl ⟨by rfl, ?_⟩) (by simp only [Act.put, List.setIfInBounds_toArray, List.set_cons_zero, List.set_cons_succ]) ?_
 ·intro w'
  go_simp
  first | done | (simp only [i64_w]; done) | rfl
 refine done_ (by kernel_rfl) ?_
 go_wp2
 go_ret
 exact ⟨rfl, hM2, hB2, KK2⟩
theorem behind_down_op1 : (opsOf Try.f73 3)[1]? = some { dst := (some 21), op := (Op.call { callee := (Callee.value (Operand.func 101)), args := #[(Operand.const (Value.bool false)), (Operand.tmp 20)], argTypes := #[4, 4] }), type := 3, pos := "l8_lock.go:215", after := #[{ on := 0, ground := Ground.data }], guard := none } := by kernel_rfl
theorem behind_down_op6 : (opsOf Try.f73 3)[6]? = some { dst := (some 26), op := (Op.call { callee := (Callee.value (Operand.func 74)), args := #[(Operand.tmp 22), (Operand.tmp 23), (Operand.tmp 25), (Operand.const (Value.bool false))], argTypes := #[109, 3, 3, 4] }), type := 3, pos := "l8_lock.go:215", after := #[{ on := 2, ground := Ground.data }, { on := 3, ground := Ground.data }, { on := 5, ground := Ground.data }, { on := 1, ground := Ground.chain }], guard := none } := by kernel_rfl
theorem behind_down_op7 : (opsOf Try.f73 3)[7]? = some { dst := (some 27), op := (Op.binOp BinOp.add 3 (Operand.tmp 21) (Operand.tmp 26) 3), type := 3, pos := "l8_lock.go:215", after := #[{ on := 1, ground := Ground.data }, { on := 6, ground := Ground.data }], guard := none } := by kernel_rfl
theorem behind_down_op8 : (opsOf Try.f73 3)[8]? = some { dst := (some 10), op := (Op.assign (Operand.tmp 27)), type := 3, pos := "l8_lock.go:215", after := #[{ on := 7, ground := Ground.data }, { on := 6, ground := Ground.chain }, { on := 0, ground := Ground.phase }, { on := 1, ground := Ground.phase }, { on := 2, ground := Ground.phase }, { on := 3, ground := Ground.phase }, { on := 4, ground := Ground.phase }, { on := 5, ground := Ground.phase }, { on := 6, ground := Ground.phase }, { on := 7, ground := Ground.phase }], guard := none } := by kernel_rfl
set_option maxHeartbeats 2000000 in
set_option maxRecDepth 100000 in
theorem behind_down.calls (g : Nat) (bet : Int → Int → Int) (m : Nat) (hF : FillsOk g bet m) : BehindOk g bet m false := by
 intro w0 x y u d f b n w hxy hm hM h0 hB hn
 have hxy' : x = (u : Int) ∧ y = (d : Int) + 1 ∧ u ≤ 10 ∧ d + 1 ≤ 10 := by simpa using hxy
 clear hxy
 obtain ⟨hx, hy, hu, hd⟩ := hxy'
 have hcall := Aside0.mk (fun (W : World) (hM : MapOk bet b n W) (hB : Below w0.heap.size w0 W) => hF w0 x (wrap64 (y - 1)) u d false b n W hx (by unfold wrap64; omega) hm (by omega) (by omega) hM h0 hB hn)
 have HM := Aside0.mk hM
 have HB := Aside0.mk hB
 have hu109 := Try.underlying109
 clear hF hM hB hx hy hu hd hm hn h0
 show Calls Try.prog 73 #[ordV g b, .int .i64 x, .int .i64 y, .bool f, .bool false] w fun e w' => e = .returned (.int .i64 (wrap64 (fl f + best bet u d false))) ∧ _
 have HB0 := Aside0.mk (below_drew (below_alloc HB.out (.cells #[.func (.func g) #[] #[], .map (some b)] 109)))
 have BK := Aside0.mk (blk_drew (hw_new0 w (.cells #[.func (.func g) #[] #[], .map (some b)] 109)))
 have HM1 := Aside0.mk (HM.out.same (w' := (w.alloc (.cells #[.func (.func g) #[] #[], .map (some b)] 109)).drew) ((below_alloc (Below.refl w.heap.size w) (.cells #[.func (.func g) #[] #[], .map (some b)] 109)).block b HM.out.lt))
 have KK := Aside0.mk (((Kept.refl w (fun k => k = b)).alloc (.cells #[.func (.func g) #[] #[], .map (some b)] 109)).drew)
 have hlt := HM.out.lt
 go_enter Try.func73, Try.ntmps73
 go_wp2
 refine start_ (n := 9) (S := fun w' => w'.cell? ⟨w.heap.size, 0, none⟩ = some (.func (.func g) #[] #[]) ∧ w'.cell? ⟨w.heap.size, 1, none⟩ = some (.map (some b))) (ds := []) #[false, false, false, false, false, false, false, false, false] (by kernel_rfl) rfl rfl ⟨(blk_cell BK.out 0).trans rfl, (blk_cell BK.out 1).trans rfl⟩ (fun hHeld => ?_)
 refine pure_ (i := 0) (N := some 20) (v := ?_) (a' := ?_) #[true, false, false, false, false, false, false, false, false] rfl rfl (by kernel_rfl) (fun _ _ _ h => h) (Or.inl ⟨by rfl, ?_⟩) ?_ ?_
 rotate_left
 ·intro w'
  go_simp
  with_reducible rfl
 rotate_left
 ·simp only [Act.put, List.setIfInBounds_toArray, List.set_cons_zero, List.set_cons_succ, i64_w, i32_w]
  rfl
 refine take_ (i := 2) (N := some 22) (v := ?_) (a' := ?_) #[true, false, true, false, false, false, false, false, false] rfl rfl (by kernel_rfl) (fun _ _ _ h => h) (Or.inl ⟨by rfl, ?_⟩) hHeld ?_ ?_
 rotate_left
 ·rintro w' ⟨s0, s1⟩
  go_simp
  with_reducible rfl
 rotate_left
 ·simp only [Act.put, List.setIfInBounds_toArray, List.set_cons_zero, List.set_cons_succ, i64_w, i32_w]
  rfl
 refine pure_ (i := 3) (N := some 23) (v := ?_) (a' := ?_) #[true, false, true, true, false, false, false, false, false] rfl rfl (by kernel_rfl) (fun _ _ _ h => h) (Or.inl ⟨by rfl, ?_⟩) ?_ ?_
 rotate_left
 ·intro w'
  go_simp
  with_reducible rfl
 rotate_left
 ·simp only [Act.put, List.setIfInBounds_toArray, List.set_cons_zero, List.set_cons_succ, i64_w, i32_w]
  rfl
 refine pure_ (i := 4) (N := some 24) (v := ?_) (a' := ?_) #[true, false, true, true, true, false, false, false, false] rfl rfl (by kernel_rfl) (fun _ _ _ h => h) (Or.inl ⟨by rfl, ?_⟩) ?_ ?_
 rotate_left
 ·intro w'
  go_simp
  with_reducible rfl
 rotate_left
 ·simp only [Act.put, List.setIfInBounds_toArray, List.set_cons_zero, List.set_cons_succ, i64_w, i32_w]
  rfl
 refine pure_ (i := 5) (N := some 25) (v := ?_) (a' := ?_) #[true, false, true, true, true, true, false, false, false] rfl rfl (by kernel_rfl) (fun _ _ _ h => h) (Or.inl ⟨by rfl, ?_⟩) ?_ ?_
 rotate_left
 ·intro w'
  go_simp
  with_reducible rfl
 rotate_left
 ·simp only [Act.put, List.setIfInBounds_toArray, List.set_cons_zero, List.set_cons_succ, i64_w, i32_w]
  rfl
 refine one_ (i := 1) (N := some 21) #[true, true, true, true, true, true, false, false, false] behind_down_op1 rfl (by kernel_rfl) (by decide) (fun K hK => ?_)
 refine goes_ Try.func101 (by kernel_rfl) rfl #[.bool false, .bool f] (by rfl) rfl rfl (by (try simp only [List.map_toArray, List.map_cons, List.map_nil]); first | done | rfl) ?_
 refine (impl_filled.calls false f (fl f) _ (filled_val f)).mono ?_
 rintro e W ⟨rfl, ⟨m1, rfl⟩⟩
 refine ⟨_, rfl, ?_⟩
 refine hK.out _ _ hHeld (fun hHeld => ?_)
 clear hK K
 refine norm_ (a' := { tmps := #[.agg #[.func (.func g) #[] #[], .map (some b)], .int .i64 x, .int .i64 y, .bool f, .bool false, .pointer (some ⟨w.heap.size, 0, none⟩), undef, undef, undef, undef, .int .i64 0, .bool false, undef, undef, undef, undef, undef, undef, undef, undef, .bool f, .int .i64 (fl f), .agg #[.func (.func g) #[] #[], .map (some b)], .int .i64 x, .int .i64 y, .int .i64 (wrap64 (y - 1)), undef, undef], defers := [] }) (by show Act.put _ (some 21) _ = _; simp only [Act.put, List.setIfInBounds_toArray, List.set_cons_zero, List.set_cons_succ]) ?_
 refine one_ (i := 6) (N := some 26) #[true, true, true, true, true, true, true, false, false] behind_down_op6 rfl (by kernel_rfl) (by decide) (fun K hK => ?_)
 refine goes_ Try.func74 (by kernel_rfl) rfl #[.agg #[.func (.func g) #[] #[], .map (some b)], .int .i64 x, .int .i64 (wrap64 (y - 1)), .bool false] (by rfl) rfl rfl (by (try simp only [List.map_toArray, List.map_cons, List.map_nil]); first | done | rfl) ?_
 refine (hcall.out ((w.alloc (.cells #[.func (.func g) #[] #[], .map (some b)] 109)).drew.drewN m1) (HM1.out.same rfl) (pw_below_drewN HB0.out m1)).mono ?_
 rintro e W ⟨rfl, hM2, hB2, hK2⟩
 have KK2 := (KK.out.drewN m1).then_ hK2 (fun _ h => .inl h)
 have BK2 := blk_kept (show ((w.alloc (.cells #[.func (.func g) #[] #[], .map (some b)] 109)).drew.drewN m1).heap[w.heap.size]? = _ from BK.out) hK2 (by omega)
 clear hHeld hcall
 refine ⟨_, rfl, ?_⟩
 refine hK.out _ _ ⟨(blk_cell BK2 0).trans rfl, (blk_cell BK2 1).trans rfl⟩ (fun hHeld => ?_)
 clear hK K
 refine norm_ (a' := { tmps := #[.agg #[.func (.func g) #[] #[], .map (some b)], .int .i64 x, .int .i64 y, .bool f, .bool false, .pointer (some ⟨w.heap.size, 0, none⟩), undef, undef, undef, undef, .int .i64 0, .bool false, undef, undef, undef, undef, undef, undef, undef, undef, .bool f, .int .i64 (fl f), .agg #[.func (.func g) #[] #[], .map (some b)], .int .i64 x, .int .i64 y, .int .i64 (wrap64 (y - 1)), .int .i64 (best bet u d false), undef], defers := [] }) (by show Act.put _ (some 26) _ = _; simp only [Act.put, List.setIfInBounds_toArray, List.set_cons_zero, List.set_cons_succ]) ?_
 refine pure_ (i := 7) (N := some 27) (v := .int .i64 (wrap64 (fl f + best bet u d false))) (a' := { tmps := #[.agg #[.func (.func g) #[] #[], .map (some b)], .int .i64 x, .int .i64 y, .bool f, .bool false, .pointer (some ⟨w.heap.size, 0, none⟩), undef, undef, undef, undef, .int .i64 0, .bool false, undef, undef, undef, undef, undef, undef, undef, undef, .bool f, .int .i64 (fl f), .agg #[.func (.func g) #[] #[], .map (some b)], .int .i64 x, .int .i64 y, .int .i64 (wrap64 (y - 1)), .int .i64 (best bet u d false), .int .i64 (wrap64 (fl f + best bet u d false))], defers := [] }) #[true, true, true, true, true, true, true, true, false] behind_down_op7 rfl (by kernel_rfl) (fun _ _ _ h => h) (Or.inl ⟨by rfl, ?_⟩) (by simp only [Act.put, List.setIfInBounds_toArray, List.set_cons_zero, List.set_cons_succ]) ?_
 ·intro w'
  go_simp
  first | done | (simp only [i64_w]; done) | rfl
 refine pure_ (i := 8) (N := some 10) (v := .int .i64 (wrap64 (fl f + best bet u d false))) (a' := { tmps := #[.agg #[.func (.func g) #[] #[], .map (some b)], .int .i64 x, .int .i64 y, .bool f, .bool false, .pointer (some ⟨w.heap.size, 0, none⟩), undef, undef, undef, undef, .int .i64 (wrap64 (fl f + best bet u d false)), .bool false, undef, undef, undef, undef, undef, undef, undef, undef, .bool f, .int .i64 (fl f), .agg #[.func (.func g) #[] #[], .map (some b)], .int .i64 x, .int .i64 y, .int .i64 (wrap64 (y - 1)), .int .i64 (best bet u d false), .int .i64 (wrap64 (fl f + best bet u d false))], defers := [] }) #[true, true, true, true, true, true, true, true, true] behind_down_op8 rfl (by kernel_rfl) (fun _ _ _ h => h) (Or.inl ⟨by rfl, ?_⟩) (by simp only [Act.put, List.setIfInBounds_toArray, List.set_cons_zero, List.set_cons_succ]) ?_
 ·intro w'
  go_simp
  first | done | (simp only [i64_w]; done) | rfl
 refine done_ (by kernel_rfl) ?_
 go_wp2
 go_ret
 exact ⟨rfl, hM2, hB2, KK2⟩
set_option maxHeartbeats 2000000 in
set_option maxRecDepth 100000 in
theorem fills_zero (g : Nat) (bet : Int → Int → Int) (w0 : World) (x y : Int) (f : Bool) (b n : Nat) (w : World) (hx : x = 0) (hy : y = 0) (hM : MapOk bet b n w) (h0 : w0.heap.size ≤ b) (hB : Below w0.heap.size w0 w) (hn : n + cost 0 < maxLen)
  (hL : ∀ W : World, W.heap[b]? = w.heap[b]? → (Instr.lookup 107 (.map (some b)) (keyv x y (fl f)) true).run Try.prog W = .ok (.tuple #[.int .i64 0, .bool false]) W) :
  Calls Try.prog 74 #[ordV g b, .int .i64 x, .int .i64 y, .bool f] w fun e w' => e = .returned (.int .i64 (best bet 0 0 f)) ∧ MapOk bet b (n + cost 0) w' ∧ Below w0.heap.size w0 w' ∧ Kept w w' (fun k => k = b) := by
 have hu109 := Try.underlying109
 have hu133 := Try.underlying133
 have HL := Aside0.mk hL
 have HM := Aside0.mk hM
 have HB := Aside0.mk hB
 have e1 : best bet 0 0 f = 0 := by rw [best]
 have HST := Aside0.mk (fun (W : World) (hM : MapOk bet b n W) => hM.store 0 0 f (by omega) (by omega) (by simp only [cost] at hn; omega))
 have c1 : decide (0 < x) = false := decide_eq_false (by omega)
 have c2 : decide (0 < y) = false := decide_eq_false (by omega)
 have hxy : (keyv ((0 : Nat) : Int) ((0 : Nat) : Int) (fl f)) = .agg #[.int .i64 x, .int .i64 y, .int .i64 (fl f)] := by rw [hx, hy]; rfl
 rw [e1] at HST
 rw [e1]
 rw [hxy] at HST
 clear hL hM hB hx hy e1 hxy hn
 go_enter Try.func74, Try.ntmps74
 go_wp2_with (first | (go_at_call 101; refine (impl_filled.calls false f (fl f) _ (filled_val f)).mono ?_; rintro e w1 ⟨rfl, ⟨m1, rfl⟩⟩; have hl := HL.out (((w.alloc (.cells #[.func (.func g) #[] #[], .map (some b)] 109)).drewN m1).alloc (.cells #[.int .i64 x, .int .i64 y, .int .i64 (fl f)] 133)) (block_next w m1 _ _ b HM.out.lt); dsimp only [keyv] at hl) | (at_mapUpdate; obtain ⟨w3, hrun, hM3, hg3, hk3⟩ := HST.out (((w.alloc (.cells #[.func (.func g) #[] #[], .map (some b)] 109)).drewN m1).alloc (.cells #[.int .i64 x, .int .i64 y, .int .i64 (fl f)] 133)) (HM.out.same (block_next w m1 _ _ b HM.out.lt)); have HM3 := Aside0.mk hM3; have KK3 := Aside0.mk ((kept_next w m1 (.cells #[.func (.func g) #[] #[], .map (some b)] 109) (.cells #[.int .i64 x, .int .i64 y, .int .i64 (fl f)] 133) (fun k => k = b)).then_ hk3 (fun _ h => .inl h)); have HB3 := Aside0.mk (pw_below_grown (below_next HB.out m1 (.cells #[.func (.func g) #[] #[], .map (some b)] 109) (.cells #[.int .i64 x, .int .i64 y, .int .i64 (fl f)] 133)) (some b) (below_next HB.out m1 (.cells #[.func (.func g) #[] #[], .map (some b)] 109) (.cells #[.int .i64 x, .int .i64 y, .int .i64 (fl f)] 133)).size hg3 (fun k hk => by have := Option.some.inj hk; omega)); clear hM3 hg3 hk3; refine update_run _ rfl _ _ _ 107 rfl _ _ _ rfl rfl rfl w3 hrun ?_))
 go_ret
 exact ⟨rfl, HM3.out, HB3.out, KK3.out⟩
theorem goesV_ {P : Program} {ops : Array Oper} {Q : Exit → Act → World → Prop} {oi : Oper} {N : Option Tmp} {a : Act} {w : World} {K : Act → World → Prop} {f : FuncId} {co : Operand} {ar : Array Operand} {ts : Array TypeId} (he : ∀ args w, (callFunc f args).run P w = .ok (.enter f args) w) (args : Array Value)
  (hw : Region.wanted oi (yielded ops a.tmps) = true) (hN : oi.dst = N) (hop : oi.op = .call { callee := .value co, args := ar, argTypes := ts }) (hco : a.eval co = .func (.func f) #[] #[]) (hargs : ar.map a.eval = args)
  (h : Calls P f args w fun e w' => ∃ v, e = .returned v ∧ K (a.put N v) w') : if Region.wanted oi (yielded ops a.tmps) = true then Oper.wp P oi a w K Q else K (a.put N undef) w := by
 refine call_ f args hw hN ?_ h
 have he' := he args w
 unfold execOp
 simp [hop, resolve, Deferred.ofValue, invoke, hargs, hco, he']
theorem fills_both_op6 : (opsOf Try.f74 7)[6]? = some { dst := (some 40), op := (Op.call { callee := (Callee.value (Operand.func 73)), args := #[(Operand.tmp 36), (Operand.tmp 37), (Operand.tmp 38), (Operand.tmp 39), (Operand.const (Value.bool true))], argTypes := #[109, 3, 3, 4, 4] }), type := 3, pos := "l8_lock.go:200", after := #[{ on := 2, ground := Ground.data }, { on := 3, ground := Ground.data }, { on := 4, ground := Ground.data }, { on := 5, ground := Ground.data }], guard := none } := by kernel_rfl
theorem fills_both_op11 : (opsOf Try.f74 7)[11]? = some { dst := (some 45), op := (Op.call { callee := (Callee.value (Operand.func 73)), args := #[(Operand.tmp 41), (Operand.tmp 42), (Operand.tmp 43), (Operand.tmp 44), (Operand.const (Value.bool false))], argTypes := #[109, 3, 3, 4, 4] }), type := 3, pos := "l8_lock.go:200", after := #[{ on := 7, ground := Ground.data }, { on := 8, ground := Ground.data }, { on := 9, ground := Ground.data }, { on := 10, ground := Ground.data }, { on := 6, ground := Ground.chain }], guard := none } := by kernel_rfl
theorem fills_both_op12 : (opsOf Try.f74 7)[12]? = some { dst := (some 46), op := (Op.call { callee := (Callee.value (Operand.tmp 35)), args := #[(Operand.tmp 40), (Operand.tmp 45)], argTypes := #[3, 3] }), type := 3, pos := "l8_lock.go:200", after := #[{ on := 1, ground := Ground.data }, { on := 6, ground := Ground.data }, { on := 11, ground := Ground.data }, { on := 11, ground := Ground.chain }], guard := none } := by kernel_rfl
theorem fills_both_op13 : (opsOf Try.f74 7)[13]? = some { dst := (some 12), op := (Op.assign (Operand.tmp 46)), type := 3, pos := "l8_lock.go:200", after := #[{ on := 12, ground := Ground.data }, { on := 12, ground := Ground.chain }, { on := 0, ground := Ground.phase }, { on := 1, ground := Ground.phase }, { on := 2, ground := Ground.phase }, { on := 3, ground := Ground.phase }, { on := 4, ground := Ground.phase }, { on := 5, ground := Ground.phase }, { on := 6, ground := Ground.phase }, { on := 7, ground := Ground.phase }, { on := 8, ground := Ground.phase }, { on := 9, ground := Ground.phase }, { on := 10, ground := Ground.phase }, { on := 11, ground := Ground.phase }, { on := 12, ground := Ground.phase }], guard := none } := by kernel_rfl
set_option maxHeartbeats 4000000 in
set_option maxRecDepth 100000 in
theorem fills_both (g : Nat) (bet : Int → Int → Int) (m : Nat) (eg : ∀ args w, (callFunc g args).run Try.prog w = .ok (.enter g args) w) (hbet : ∀ (a c : Int) (W : World), Calls Try.prog g #[.int .i64 a, .int .i64 c] W fun e w' => e = .returned (.int .i64 (bet a c)) ∧ Below W.heap.size W w')
  (hU : BehindOk g bet m true) (hD : BehindOk g bet m false) (w0 : World) (x y : Int) (u d : Nat) (f : Bool) (b n : Nat) (w : World) (hx : x = (u : Int) + 1) (hy : y = (d : Int) + 1) (hm : u + d + 1 = m) (hu : u + 1 ≤ 10) (hd : d + 1 ≤ 10) (hM : MapOk bet b n w) (h0 : w0.heap.size ≤ b) (hB : Below w0.heap.size w0 w) (hn : n + cost (m + 1) < maxLen)
  (hL : ∀ W : World, W.heap[b]? = w.heap[b]? → (Instr.lookup 107 (.map (some b)) (keyv x y (fl f)) true).run Try.prog W = .ok (.tuple #[.int .i64 0, .bool false]) W) :
  Calls Try.prog 74 #[ordV g b, .int .i64 x, .int .i64 y, .bool f] w fun e w' => e = .returned (.int .i64 (best bet (u + 1) (d + 1) f)) ∧ MapOk bet b (n + cost (m + 1)) w' ∧ Below w0.heap.size w0 w' ∧ Kept w w' (fun k => k = b) := by
 have hu109 := Try.underlying109
 have hu133 := Try.underlying133
 have hc : n + cost m + cost m + 1 ≤ n + cost (m + 1) := by simp only [cost]; omega
 have HL := Aside0.mk hL
 have HM := Aside0.mk hM
 have HB := Aside0.mk hB
 have hcU : Aside0 (∀ (W : World), MapOk bet b n W → Below w0.heap.size w0 W → Calls Try.prog 73 #[ordV g b, .int .i64 x, .int .i64 y, .bool f, .bool true] W fun e w' => e = .returned (.int .i64 (wrap64 (1 + best bet u (d + 1) true))) ∧ MapOk bet b (n + cost m) w' ∧ Below w0.heap.size w0 w' ∧ Kept W w' (fun k => k = b)) := ⟨fun W hM hB => (hU w0 x y u (d + 1) f b n W (by simp only [if_true]; omega) (by omega) hM h0 hB (by omega)).mono (fun e w' h => h)⟩
 have hcD : Aside0 (∀ (W : World), MapOk bet b (n + cost m) W → Below w0.heap.size w0 W → Calls Try.prog 73 #[ordV g b, .int .i64 x, .int .i64 y, .bool f, .bool false] W fun e w' => e = .returned (.int .i64 (wrap64 (fl f + best bet (u + 1) d false))) ∧ MapOk bet b (n + cost m + cost m) w' ∧ Below w0.heap.size w0 w' ∧ Kept W w' (fun k => k = b)) := ⟨fun W hM hB => (hD w0 x y (u + 1) d f b (n + cost m) W (by simp only [Bool.false_eq_true, if_false]; omega) (by omega) hM h0 hB (by omega)).mono (fun e w' h => h)⟩
 have e1 : best bet (u + 1) (d + 1) f = (bet (wrap64 (1 + best bet u (d + 1) true)) (wrap64 (fl f + best bet (u + 1) d false))) := by rw [best]
 have HST := Aside0.mk (fun (W : World) (hM : MapOk bet b (n + cost m + cost m) W) => hM.store (u + 1) (d + 1) f (by omega) (by omega) (by omega))
 have c1 : decide (0 < x) = true := decide_eq_true (by omega)
 have c2 : decide (0 < y) = true := decide_eq_true (by omega)
 have hxy : (keyv ((u + 1 : Nat) : Int) ((d + 1 : Nat) : Int) (fl f)) = .agg #[.int .i64 x, .int .i64 y, .int .i64 (fl f)] := by rw [hx, hy]; rfl
 have HN := Aside0.mk hc
 have HBT := Aside0.mk hbet
 rw [e1] at HST
 rw [e1]
 rw [hxy] at HST
 clear hL hM hB hx hy e1 hxy hU hD hn hm hu hd hc hbet
 go_enter Try.func74, Try.ntmps74
 go_wp2_with (go_at_call 101; refine (impl_filled.calls false f (fl f) _ (filled_val f)).mono ?_; rintro e w1 ⟨rfl, ⟨m1, rfl⟩⟩; have hl := HL.out (((w.alloc (.cells #[.func (.func g) #[] #[], .map (some b)] 109)).drewN m1).alloc (.cells #[.int .i64 x, .int .i64 y, .int .i64 (fl f)] 133)) (block_next w m1 _ _ b HM.out.lt); dsimp only [keyv] at hl)
 clear hl
 have BK := Aside0.mk (hw_next w m1 (.cells #[.func (.func g) #[] #[], .map (some b)] 109) (.cells #[.int .i64 x, .int .i64 y, .int .i64 (fl f)] 133))
 have hlt := HM.out.lt
 refine start_ (n := 14) (S := fun w' => w'.cell? ⟨w.heap.size, 0, none⟩ = some (.func (.func g) #[] #[]) ∧ w'.cell? ⟨w.heap.size, 1, none⟩ = some (.map (some b))) (ds := []) #[false, false, false, false, false, false, false, false, false, false, false, false, false, false] (by kernel_rfl) rfl rfl ⟨(blk_cell (blk_drew BK.out.1) 0).trans rfl, (blk_cell (blk_drew BK.out.1) 1).trans rfl⟩ (fun hHeld => ?_)
 refine pure_ (i := 0) (N := some 34) (v := ?_) (a' := ?_) #[true, false, false, false, false, false, false, false, false, false, false, false, false, false] rfl rfl (by kernel_rfl) (fun _ _ _ h => h) (Or.inl ⟨by rfl, ?_⟩) ?_ ?_
 rotate_left
 ·intro w'
  go_simp
  with_reducible rfl
 rotate_left
 ·simp only [Act.put, List.setIfInBounds_toArray, List.set_cons_zero, List.set_cons_succ, i64_w, i32_w]
  rfl
 refine take_ (i := 1) (N := some 35) (v := ?_) (a' := ?_) #[true, true, false, false, false, false, false, false, false, false, false, false, false, false] rfl rfl (by kernel_rfl) (fun _ _ _ h => h) (Or.inl ⟨by rfl, ?_⟩) hHeld ?_ ?_
 rotate_left
 ·rintro w' ⟨s0, s1⟩
  go_simp
  with_reducible rfl
 rotate_left
 ·simp only [Act.put, List.setIfInBounds_toArray, List.set_cons_zero, List.set_cons_succ, i64_w, i32_w]
  rfl
 refine take_ (i := 2) (N := some 36) (v := ?_) (a' := ?_) #[true, true, true, false, false, false, false, false, false, false, false, false, false, false] rfl rfl (by kernel_rfl) (fun _ _ _ h => h) (Or.inl ⟨by rfl, ?_⟩) hHeld ?_ ?_
 rotate_left
 ·rintro w' ⟨s0, s1⟩
  go_simp
  with_reducible rfl
 rotate_left
 ·simp only [Act.put, List.setIfInBounds_toArray, List.set_cons_zero, List.set_cons_succ, i64_w, i32_w]
  rfl
 refine pure_ (i := 3) (N := some 37) (v := ?_) (a' := ?_) #[true, true, true, true, false, false, false, false, false, false, false, false, false, false] rfl rfl (by kernel_rfl) (fun _ _ _ h => h) (Or.inl ⟨by rfl, ?_⟩) ?_ ?_
 rotate_left
 ·intro w'
  go_simp
  with_reducible rfl
 rotate_left
 ·simp only [Act.put, List.setIfInBounds_toArray, List.set_cons_zero, List.set_cons_succ, i64_w, i32_w]
  rfl
 refine pure_ (i := 4) (N := some 38) (v := ?_) (a' := ?_) #[true, true, true, true, true, false, false, false, false, false, false, false, false, false] rfl rfl (by kernel_rfl) (fun _ _ _ h => h) (Or.inl ⟨by rfl, ?_⟩) ?_ ?_
 rotate_left
 ·intro w'
  go_simp
  with_reducible rfl
 rotate_left
 ·simp only [Act.put, List.setIfInBounds_toArray, List.set_cons_zero, List.set_cons_succ, i64_w, i32_w]
  rfl
 refine pure_ (i := 5) (N := some 39) (v := ?_) (a' := ?_) #[true, true, true, true, true, true, false, false, false, false, false, false, false, false] rfl rfl (by kernel_rfl) (fun _ _ _ h => h) (Or.inl ⟨by rfl, ?_⟩) ?_ ?_
 rotate_left
 ·intro w'
  go_simp
  with_reducible rfl
 rotate_left
 ·simp only [Act.put, List.setIfInBounds_toArray, List.set_cons_zero, List.set_cons_succ, i64_w, i32_w]
  rfl
 refine take_ (i := 7) (N := some 41) (v := ?_) (a' := ?_) #[true, true, true, true, true, true, false, true, false, false, false, false, false, false] rfl rfl (by kernel_rfl) (fun _ _ _ h => h) (Or.inl ⟨by rfl, ?_⟩) hHeld ?_ ?_
 rotate_left
 ·rintro w' ⟨s0, s1⟩
  go_simp
  with_reducible rfl
 rotate_left
 ·simp only [Act.put, List.setIfInBounds_toArray, List.set_cons_zero, List.set_cons_succ, i64_w, i32_w]
  rfl
 refine pure_ (i := 8) (N := some 42) (v := ?_) (a' := ?_) #[true, true, true, true, true, true, false, true, true, false, false, false, false, false] rfl rfl (by kernel_rfl) (fun _ _ _ h => h) (Or.inl ⟨by rfl, ?_⟩) ?_ ?_
 rotate_left
 ·intro w'
  go_simp
  with_reducible rfl
 rotate_left
 ·simp only [Act.put, List.setIfInBounds_toArray, List.set_cons_zero, List.set_cons_succ, i64_w, i32_w]
  rfl
 refine pure_ (i := 9) (N := some 43) (v := ?_) (a' := ?_) #[true, true, true, true, true, true, false, true, true, true, false, false, false, false] rfl rfl (by kernel_rfl) (fun _ _ _ h => h) (Or.inl ⟨by rfl, ?_⟩) ?_ ?_
 rotate_left
 ·intro w'
  go_simp
  with_reducible rfl
 rotate_left
 ·simp only [Act.put, List.setIfInBounds_toArray, List.set_cons_zero, List.set_cons_succ, i64_w, i32_w]
  rfl
 refine pure_ (i := 10) (N := some 44) (v := ?_) (a' := ?_) #[true, true, true, true, true, true, false, true, true, true, true, false, false, false] rfl rfl (by kernel_rfl) (fun _ _ _ h => h) (Or.inl ⟨by rfl, ?_⟩) ?_ ?_
 rotate_left
 ·intro w'
  go_simp
  with_reducible rfl
 rotate_left
 ·simp only [Act.put, List.setIfInBounds_toArray, List.set_cons_zero, List.set_cons_succ, i64_w, i32_w]
  rfl
 refine one_ (i := 6) (N := some 40) #[true, true, true, true, true, true, true, true, true, true, true, false, false, false] fills_both_op6 rfl (by kernel_rfl) (by decide) (fun K hK => ?_)
 refine goes_ Try.func73 (by kernel_rfl) rfl #[.agg #[.func (.func g) #[] #[], .map (some b)], .int .i64 x, .int .i64 y, .bool f, .bool true] (by rfl) rfl rfl (by (try simp only [List.map_toArray, List.map_cons, List.map_nil]); first | done | rfl) ?_
 refine (hcU.out (((w.alloc (.cells #[.func (.func g) #[] #[], .map (some b)] 109)).drewN m1).alloc (.cells #[.int .i64 x, .int .i64 y, .int .i64 (fl f)] 133)).drew ((HM.out.same (block_next w m1 (.cells #[.func (.func g) #[] #[], .map (some b)] 109) (.cells #[.int .i64 x, .int .i64 y, .int .i64 (fl f)] 133) b HM.out.lt)).same rfl) (below_drew (below_next HB.out m1 (.cells #[.func (.func g) #[] #[], .map (some b)] 109) (.cells #[.int .i64 x, .int .i64 y, .int .i64 (fl f)] 133)))).mono ?_
 rintro e W2 ⟨rfl, hM2, hB2, hK2⟩
 have KK2 := ((kept_next w m1 (.cells #[.func (.func g) #[] #[], .map (some b)] 109) (.cells #[.int .i64 x, .int .i64 y, .int .i64 (fl f)] 133) (fun k => k = b)).drew).then_ hK2 (fun _ h => .inl h)
 have B2 := blk_kept (blk_drew BK.out.1) hK2 (by omega)
 have C2 := blk_kept (blk_drew BK.out.2) hK2 (by omega)
 clear hHeld hcU
 refine ⟨_, rfl, ?_⟩
 refine hK.out _ _ ⟨(blk_cell B2 0).trans rfl, (blk_cell B2 1).trans rfl⟩ (fun hHeld => ?_)
 clear hK K
 refine norm_ (a' := { tmps := #[.agg #[.func (.func g) #[] #[], .map (some b)], .int .i64 x, .int .i64 y, .bool f, .pointer (some ⟨w.heap.size, 0, none⟩), undef, undef, undef, .int .i64 0, .pointer (some ⟨w.heap.size + 1, 0, none⟩), .int .i64 0, .bool false, .int .i64 0, .int .i64 x, .int .i64 y, .bool f, .int .i64 (fl f), .agg #[.int .i64 x, .int .i64 y, .int .i64 (fl f)], .tuple #[.int .i64 0, .bool false], .pointer (some ⟨w.heap.size, 1, none⟩), .map (some b), .agg #[.int .i64 x, .int .i64 y, .int .i64 (fl f)], .tuple #[.int .i64 0, .bool false], .int .i64 0, .bool false, .bool false, undef, .bool true, .int .i64 x, .bool true, .bool true, .int .i64 y, .bool true, .bool true, .pointer (some ⟨w.heap.size, 0, none⟩), .func (.func g) #[] #[], .agg #[.func (.func g) #[] #[], .map (some b)], .int .i64 x, .int .i64 y, .bool f, .int .i64 (wrap64 (1 + best bet u (d + 1) true)), .agg #[.func (.func g) #[] #[], .map (some b)], .int .i64 x, .int .i64 y, .bool f, undef, undef, undef, undef, undef, undef, undef, undef, undef, undef, undef, undef, undef, undef, undef, undef, undef, undef, undef, undef, undef, undef, undef], defers := [] }) (by show Act.put _ (some 40) _ = _; simp only [Act.put, List.setIfInBounds_toArray, List.set_cons_zero, List.set_cons_succ]) ?_
 refine one_ (i := 11) (N := some 45) #[true, true, true, true, true, true, true, true, true, true, true, true, false, false] fills_both_op11 rfl (by kernel_rfl) (by decide) (fun K hK => ?_)
 refine goes_ Try.func73 (by kernel_rfl) rfl #[.agg #[.func (.func g) #[] #[], .map (some b)], .int .i64 x, .int .i64 y, .bool f, .bool false] (by rfl) rfl rfl (by (try simp only [List.map_toArray, List.map_cons, List.map_nil]); first | done | rfl) ?_
 refine (hcD.out _ hM2 hB2).mono ?_
 rintro e W3 ⟨rfl, hM3, hB3, hK3⟩
 have KK3 := KK2.then_ hK3 (fun _ h => .inl h)
 have B3 := blk_kept B2 hK3 (by omega)
 have C3 := blk_kept C2 hK3 (by omega)
 clear hHeld hcD hM2 hB2 hK2 KK2 B2 C2
 refine ⟨_, rfl, ?_⟩
 refine hK.out _ _ ⟨(blk_cell B3 0).trans rfl, (blk_cell B3 1).trans rfl⟩ (fun hHeld => ?_)
 clear hK K
 refine norm_ (a' := { tmps := #[.agg #[.func (.func g) #[] #[], .map (some b)], .int .i64 x, .int .i64 y, .bool f, .pointer (some ⟨w.heap.size, 0, none⟩), undef, undef, undef, .int .i64 0, .pointer (some ⟨w.heap.size + 1, 0, none⟩), .int .i64 0, .bool false, .int .i64 0, .int .i64 x, .int .i64 y, .bool f, .int .i64 (fl f), .agg #[.int .i64 x, .int .i64 y, .int .i64 (fl f)], .tuple #[.int .i64 0, .bool false], .pointer (some ⟨w.heap.size, 1, none⟩), .map (some b), .agg #[.int .i64 x, .int .i64 y, .int .i64 (fl f)], .tuple #[.int .i64 0, .bool false], .int .i64 0, .bool false, .bool false, undef, .bool true, .int .i64 x, .bool true, .bool true, .int .i64 y, .bool true, .bool true, .pointer (some ⟨w.heap.size, 0, none⟩), .func (.func g) #[] #[], .agg #[.func (.func g) #[] #[], .map (some b)], .int .i64 x, .int .i64 y, .bool f, .int .i64 (wrap64 (1 + best bet u (d + 1) true)), .agg #[.func (.func g) #[] #[], .map (some b)], .int .i64 x, .int .i64 y, .bool f, .int .i64 (wrap64 (fl f + best bet (u + 1) d false)), undef, undef, undef, undef, undef, undef, undef, undef, undef, undef, undef, undef, undef, undef, undef, undef, undef, undef, undef, undef, undef, undef], defers := [] }) (by show Act.put _ (some 45) _ = _; simp only [Act.put, List.setIfInBounds_toArray, List.set_cons_zero, List.set_cons_succ]) ?_
 refine one_ (i := 12) (N := some 46) #[true, true, true, true, true, true, true, true, true, true, true, true, true, false] fills_both_op12 rfl (by kernel_rfl) (by decide) (fun K hK => ?_)
 refine goesV_ (f := g) eg #[.int .i64 (wrap64 (1 + best bet u (d + 1) true)), .int .i64 (wrap64 (fl f + best bet (u + 1) d false))] (by rfl) rfl rfl (by rfl) (by (try simp only [List.map_toArray, List.map_cons, List.map_nil]); first | done | rfl) ?_
 refine (HBT.out _ _ _).mono ?_
 rintro e W4 ⟨rfl, hB4⟩
 refine ⟨_, rfl, ?_⟩
 refine hK.out _ _ ⟨pw_cell_below hB4 hHeld.1, pw_cell_below hB4 hHeld.2⟩ (fun hHeld => ?_)
 clear hK K
 refine norm_ (a' := { tmps := #[.agg #[.func (.func g) #[] #[], .map (some b)], .int .i64 x, .int .i64 y, .bool f, .pointer (some ⟨w.heap.size, 0, none⟩), undef, undef, undef, .int .i64 0, .pointer (some ⟨w.heap.size + 1, 0, none⟩), .int .i64 0, .bool false, .int .i64 0, .int .i64 x, .int .i64 y, .bool f, .int .i64 (fl f), .agg #[.int .i64 x, .int .i64 y, .int .i64 (fl f)], .tuple #[.int .i64 0, .bool false], .pointer (some ⟨w.heap.size, 1, none⟩), .map (some b), .agg #[.int .i64 x, .int .i64 y, .int .i64 (fl f)], .tuple #[.int .i64 0, .bool false], .int .i64 0, .bool false, .bool false, undef, .bool true, .int .i64 x, .bool true, .bool true, .int .i64 y, .bool true, .bool true, .pointer (some ⟨w.heap.size, 0, none⟩), .func (.func g) #[] #[], .agg #[.func (.func g) #[] #[], .map (some b)], .int .i64 x, .int .i64 y, .bool f, .int .i64 (wrap64 (1 + best bet u (d + 1) true)), .agg #[.func (.func g) #[] #[], .map (some b)], .int .i64 x, .int .i64 y, .bool f, .int .i64 (wrap64 (fl f + best bet (u + 1) d false)), .int .i64 (bet (wrap64 (1 + best bet u (d + 1) true)) (wrap64 (fl f + best bet (u + 1) d false))), undef, undef, undef, undef, undef, undef, undef, undef, undef, undef, undef, undef, undef, undef, undef, undef, undef, undef, undef, undef, undef], defers := [] }) (by show Act.put _ (some 46) _ = _; simp only [Act.put, List.setIfInBounds_toArray, List.set_cons_zero, List.set_cons_succ]) ?_
 refine pure_ (i := 13) (N := some 12) (v := .int .i64 (bet (wrap64 (1 + best bet u (d + 1) true)) (wrap64 (fl f + best bet (u + 1) d false)))) (a' := { tmps := #[.agg #[.func (.func g) #[] #[], .map (some b)], .int .i64 x, .int .i64 y, .bool f, .pointer (some ⟨w.heap.size, 0, none⟩), undef, undef, undef, .int .i64 0, .pointer (some ⟨w.heap.size + 1, 0, none⟩), .int .i64 0, .bool false, .int .i64 (bet (wrap64 (1 + best bet u (d + 1) true)) (wrap64 (fl f + best bet (u + 1) d false))), .int .i64 x, .int .i64 y, .bool f, .int .i64 (fl f), .agg #[.int .i64 x, .int .i64 y, .int .i64 (fl f)], .tuple #[.int .i64 0, .bool false], .pointer (some ⟨w.heap.size, 1, none⟩), .map (some b), .agg #[.int .i64 x, .int .i64 y, .int .i64 (fl f)], .tuple #[.int .i64 0, .bool false], .int .i64 0, .bool false, .bool false, undef, .bool true, .int .i64 x, .bool true, .bool true, .int .i64 y, .bool true, .bool true, .pointer (some ⟨w.heap.size, 0, none⟩), .func (.func g) #[] #[], .agg #[.func (.func g) #[] #[], .map (some b)], .int .i64 x, .int .i64 y, .bool f, .int .i64 (wrap64 (1 + best bet u (d + 1) true)), .agg #[.func (.func g) #[] #[], .map (some b)], .int .i64 x, .int .i64 y, .bool f, .int .i64 (wrap64 (fl f + best bet (u + 1) d false)), .int .i64 (bet (wrap64 (1 + best bet u (d + 1) true)) (wrap64 (fl f + best bet (u + 1) d false))), undef, undef, undef, undef, undef, undef, undef, undef, undef, undef, undef, undef, undef, undef, undef, undef, undef, undef, undef, undef, undef], defers := [] }) #[true, true, true, true, true, true, true, true, true, true, true, true, true, true] fills_both_op13 rfl (by kernel_rfl) (fun _ _ _ h => h) (Or.inl ⟨by rfl, ?_⟩) (by simp only [Act.put, List.setIfInBounds_toArray, List.set_cons_zero, List.set_cons_succ]) ?_
 ·intro w'
  go_simp
  first | done | (simp only [i64_w]; done) | rfl
 refine done_ (by kernel_rfl) ?_
 have HM4 := Aside0.mk (hM3.same (hB4.block b hM3.lt))
 have HB4 := Aside0.mk (below_then hB3 hB3.size hB4)
 have KK4 := Aside0.mk (KK3.below hB4)
 have B4 := blk_below B3 hB4
 have C4 := blk_below C3 hB4
 clear hM3 hB3 hK3 KK3 B3 C3 hHeld hB4
 obtain ⟨w5, hrun, hM5, hg5, hk5⟩ := HST.out _ HM4.out
 have HM5 := Aside0.mk hM5
 have KK5 := Aside0.mk (KK4.out.then_ hk5 (fun _ h => .inl h))
 have HB5 := Aside0.mk (pw_below_grown HB4.out (some b) HB4.out.size hg5 (fun k hk => by have := Option.some.inj hk; omega))
 clear hM5 hg5 hk5
 have hc1 := (blk_cell B4 1).trans rfl
 have hk0 := (blk_cell C4 0).trans rfl
 have hk1 := (blk_cell C4 1).trans rfl
 have hk2 := (blk_cell C4 2).trans rfl
 clear B4 C4
 go_wp2_with (at_mapUpdate; refine update_run _ rfl _ _ _ 107 rfl _ _ _ rfl rfl rfl w5 hrun ?_)
 go_ret
 exact ⟨rfl, HM5.out.mono HN.out, HB5.out, KK5.out⟩
theorem fills_all (g : Nat) (bet : Int → Int → Int) (eg : ∀ args w, (callFunc g args).run Try.prog w = .ok (.enter g args) w) (hbet : ∀ (a c : Int) (W : World), Calls Try.prog g #[.int .i64 a, .int .i64 c] W fun e w' => e = .returned (.int .i64 (bet a c)) ∧ Below W.heap.size W w') (m : Nat) : FillsOk g bet m := by
 induction m with
 | zero =>
  intro w0 x y u d f b n w hx hy hm hu hd hM h0 hB hn
  rcases hM.look_all u d f hu hd with hL | hL
  ·have hL' : ∀ W : World, W.heap[b]? = w.heap[b]? → (Instr.lookup 107 (.map (some b)) (keyv x y (fl f)) true).run Try.prog W = .ok (.tuple #[.int .i64 0, .bool false]) W := by rw [hx, hy]; exact hL
   have hu0 : u = 0 := by omega
   have hd0 : d = 0 := by omega
   subst hu0
   subst hd0
   exact fills_zero g bet w0 x y f b n w hx hy hM h0 hB hn hL'
  ·refine (fills_found g bet w0 x y u d f b n w hx hy hM hB hL).mono ?_
   rintro e w' ⟨h1, h2, h3, h4⟩
   exact ⟨h1, h2.mono (Nat.le_add_right _ _), h3, h4⟩
 | succ m ih =>
  intro w0 x y u d f b n w hx hy hm hu hd hM h0 hB hn
  rcases hM.look_all u d f hu hd with hL | hL
  ·have hL' : ∀ W : World, W.heap[b]? = w.heap[b]? → (Instr.lookup 107 (.map (some b)) (keyv x y (fl f)) true).run Try.prog W = .ok (.tuple #[.int .i64 0, .bool false]) W := by rw [hx, hy]; exact hL
   have hU := behind_up.calls g bet m ih
   have hD := behind_down.calls g bet m ih
   cases u with
   | zero =>
    cases d with
    | zero => omega
    | succ d => exact fills_down g bet m hD w0 x y d f b n w hx (by rw [hy]; rfl) (by omega) (by omega) hM h0 hB hn hL'
   | succ u =>
    cases d with
    | zero => exact fills_up g bet m hU w0 x y u f b n w (by rw [hx]; rfl) hy (by omega) (by omega) hM h0 hB hn hL'
    | succ d => exact fills_both g bet m eg hbet hU hD w0 x y u d f b n w (by rw [hx]; rfl) (by rw [hy]; rfl) (by omega) hu hd hM h0 hB hn hL'
  ·refine (fills_found g bet w0 x y u d f b n w hx hy hM hB hL).mono ?_
   rintro e w' ⟨h1, h2, h3, h4⟩
   exact ⟨h1, h2.mono (Nat.le_add_right _ _), h3, h4⟩
theorem run_store_func {P : Program} {w : World} {a : Addr} {m : Mode} (f : Fn) (cs lb : Array Value) : (store a (.func f cs lb) m).run P w = stored P w a (.func f cs lb) m := run_store P w a _ m rfl
attribute [local go_sem] run_store_func
set_option maxHeartbeats 1000000 in
set_option maxRecDepth 100000 in
theorem ordersOf.calls (g : Nat) (bet : Int → Int → Int) (w : World) : Calls Try.prog 72 #[.func (.func g) #[] #[]] w fun e w' => ∃ b, e = .returned (ordV g b) ∧ w.heap.size ≤ b ∧ MapOk bet b 0 w' ∧ Below w.heap.size w w' := by
 have hu109 := Try.underlying109
 have hu107 := Try.underlying107
 have hmk := run_makeMap (P := Try.prog) 107 (w.alloc (.cells #[.nilFunc, .map none] 109))
 have BK : ((w.alloc (.cells #[.nilFunc, .map none] 109)).alloc (.map #[] 0)).heap[w.heap.size]? = some (.cells #[.nilFunc, .map none] 109 (0, 0)) := blk_alloc (hw_new0 w (.cells #[.nilFunc, .map none] 109)) _
 have hb0 := (blk_cell BK 0).trans rfl
 have hb1 := (blk_cell BK 1).trans rfl
 have hf0 := blk_frozen BK 0
 have hf1 := blk_frozen BK 1
 have hsz : (w.alloc (.cells #[.nilFunc, .map none] 109)).heap.size = w.heap.size + 1 := World.size_alloc w _
 have hsz2 : (w.alloc (.cells #[.func (.func g) #[] #[], .map (some (w.heap.size + 1))] 109)).heap.size = w.heap.size + 1 := World.size_alloc w _
 have HM := Aside0.mk (hsz2 ▸ MapOk.new bet (w.alloc (.cells #[.func (.func g) #[] #[], .map (some (w.heap.size + 1))] 109)))
 have HBB := Aside0.mk (below_alloc (below_alloc (Below.refl w.heap.size w) (.cells #[.func (.func g) #[] #[], .map (some (w.heap.size + 1))] 109)) (.map #[] 0))
 have BK2 := Aside0.mk (blk_alloc (hw_new0 w (.cells #[.func (.func g) #[] #[], .map (some (w.heap.size + 1))] 109)) (.map #[] 0))
 rw [hsz] at hmk
 clear BK hsz hsz2
 go_enter Try.func72, Try.ntmps72
 go_wp2
 refine bodyPost_ret (results_cell_row rfl _ _ w.heap.size 109 #[.func (.func g) #[] #[], .map (some (w.heap.size + 1))] (0, 0) _ rfl BK2.out Try.underlying109 rfl (by kernel_rfl)) rfl ?_
 exact ⟨w.heap.size + 1, rfl, by omega, HM.out, HBB.out⟩

/-! ### impl_orders_behind: function 73 -/

end Go.Proofs.Ytminippcikenfaa.PFnExactLeastTraffic

/- Lean functions of the Go functions that the law FnExactTakenIn reaches, and the proofs that the calls come to what they say (made by program). -/
import Derived.Test.YtobkbpoamicjgaaAb
import Derived.Test.YtobkbpoamicjgaaPFnExactTakenInx0
import Derived.Test.YtobkbpoamicjgaaPFnExactTakenInx2
import Derived.Test.YtobkbpoamicjgaaPFnExactTakenInx3
namespace Go.Proofs.Ytobkbpoamicjgaa.PFnExactTakenIn
open Go.RowKit Go.Proofs.YtobkbpoamicjgaaW.PrintWords Go.Proofs.YtobkbpoamicjgaaW.PrintLast Go.Proofs.YtobkbpoamicjgaaW.PrintMore Go.Proofs.Ytobkbpoamicjgaa.Ab
attribute [local go_sem] max2_int min2_int max_two min_two max_three min_three max_four min_four   -- for this text's walks alone
set_option linter.unusedVariables false
set_option linter.unusedSimpArgs false

/-! ### spec_veAlong: function 80 -/
def spec_veAlong.l0 : List S41 → List Int → List Int → List S26 → Option (List S26)
 | [], _, _, out => some out
 | m :: ms, s, h, out => (spec_veMake.f s h m.f0 m.f1).bind fun t => spec_veAlong.l0 ms t.1 t.2 (out ++ [(⟨t.1, t.2⟩ : S26)])
def spec_veAlong.f (l0_0 : List Int) (l0_1 : List Int) (l1 : List S41) : Option (List S26) := if l1.length ≤ 1000 ∧ l0_0.length ≤ 1000 ∧ l0_1.length ≤ 1000 then spec_veAlong.l0 l1 l0_0 l0_1 [(⟨l0_0, l0_1⟩ : S26)] else none
/-- a struct of two rows that are apart -/
def k26a : Kd S26 where
 sz := k26.sz
 E := k26.E
 K := k26.K
 M := fun w base ok x cs => ∃ v0 v1, cs = [v0, v1] ∧ (Kd.int .i64).R 3 w base (fun k => ok k ∧ some k ≠ v1.ownBlock) v0 x.f0 ∧ (Kd.int .i64).R 3 w base (fun k => ok k ∧ some k ≠ v0.ownBlock) v1 x.f1
 K_len := k26.K_len
 K_one := k26.K_one
 K_below := k26.K_below
 K_of_M := by
  rintro w base ok x cs ⟨v0, v1, rfl, h0, h1⟩
  exact k26.K_of_M (k26_mkM w base ok x (Kd.R_mono h0 (fun _ h => h.1)) (Kd.R_mono h1 (fun _ h => h.1)))
 M_mono := by
  rintro w base ok ok' x cs hok ⟨v0, v1, rfl, h0, h1⟩
  exact ⟨v0, v1, rfl, Kd.R_mono h0 (fun k h => ⟨hok k h.1, h.2⟩), Kd.R_mono h1 (fun k h => ⟨hok k h.1, h.2⟩)⟩
 M_bound := by
  rintro w base ok x cs ⟨v0, v1, rfl, h0, h1⟩
  refine ⟨v0, v1, rfl, Kd.R_mono (Kd.R_bound h0) (fun k h => ⟨⟨h.1.1, h.2.1, h.2.2.1, ?_⟩, h.1.2⟩), Kd.R_mono (Kd.R_bound h1) (fun k h => ⟨⟨h.1.1, h.2.1, h.2.2.1, ?_⟩, h.1.2⟩)⟩ <;>
  ·obtain ⟨_, _, _, q, hq, hc⟩ := h
   refine ⟨q, ?_, hc⟩
   simp [Kd.int, Kd.scalar] at hq
   simp [k26, Kd.iso, Kd.pair, Kd.slice, hq]
 M_move := by
  rintro w w1 base ok x cs hm ⟨v0, v1, rfl, h0, h1⟩
  exact ⟨v0, v1, rfl, Kd.R_move h0 (fun k h => hm k h.1), Kd.R_move h1 (fun k h => hm k h.1)⟩
 M_lower := by
  rintro w base base' ok x cs hb ⟨v0, v1, rfl, h0, h1⟩
  exact ⟨v0, v1, rfl, Kd.R_lower h0 hb, Kd.R_lower h1 hb⟩
theorem k26a_mkM (w : World) (base : Nat) (ok : Nat → Prop) (x : S26) {v0 v1 : Value} (g0 : (Kd.int .i64).R 3 w base (fun k => ok k ∧ some k ≠ v1.ownBlock) v0 x.f0) (g1 : (Kd.int .i64).R 3 w base (fun k => ok k ∧ some k ≠ v0.ownBlock) v1 x.f1) : k26a.M w base ok x [v0, v1] := ⟨v0, v1, rfl, g0, g1⟩
theorem k26a_M {w : World} {base : Nat} {ok : Nat → Prop} {x : S26} {cs : List Value} (h : k26a.M w base ok x cs) : k26.M w base ok x cs := by
 obtain ⟨v0, v1, rfl, g0, g1⟩ := h
 exact k26_mkM _ _ _ x (Kd.R_mono g0 (fun _ h => h.1)) (Kd.R_mono g1 (fun _ h => h.1))
theorem k26a_S {e : Nat} {w : World} {base : Nat} {ok : Nat → Prop} {v : Value} {xs : List S26} (h : Kd.S k26a e w base ok v xs) : Kd.S k26 e w base ok v xs := by
 obtain ⟨f, h0, inner, ho, hr⟩ := h
 exact ⟨f, h0, inner, ho, hr.imp_ (fun p c hp => k26a_M hp)⟩
theorem va_one {α : Type} {d : Kd α} {e : Nat} {w : World} {base : Nat} {ok : Nat → Prop} {v : Value} {x : α} (h : d.R e w base ok v [x]) : Kd.S d e w base ok v [x] := by
 obtain ⟨h0, inner, ho, hr⟩ := h
 refine ⟨fun _ => 0, h0, inner, ho, hr.1, fun j p hj => ?_⟩
 match j, hj with
 | 0, hj =>
  have h1 := hr.2 0 x rfl
  obtain rfl : p = (x, 0) := by simpa using hj.symm
  exact d.M_mono (fun k hk => ⟨hk, rfl⟩) h1
 | j + 1, hj => simp at hj
theorem va_new (w : World) (o : Obj) : (w.alloc o).heap[w.heap.size]? = some o := by unfold World.alloc; exact Array.getElem?_push_size
set_option maxHeartbeats 8000000 in
set_option maxRecDepth 100000 in
theorem spec_veAlong.callsA (A0_0 : Option Addr) (c0_0 : Nat) (l0_0 : List Int) (A0_1 : Option Addr) (c0_1 : Nat) (l0_1 : List Int) (A1 : Option Addr) (c1 : Nat) (l1 : List S41) (r : List S26) (w : World) (hr0_0 : Kd.C (Kd.int .i64) w A0_0 l0_0.length l0_0) (hc0_0 : l0_0.length ≤ c0_0) (hr0_1 : Kd.C (Kd.int .i64) w A0_1 l0_1.length l0_1) (hc0_1 : l0_1.length ≤ c0_1) (hr1 : Kd.C k41 w A1 l1.length l1) (hc1 : l1.length ≤ c1) (h : spec_veAlong.f l0_0 l0_1 l1 = some r) :
  Calls Try.prog 80 #[.agg #[.slice A0_0 l0_0.length c0_0, .slice A0_1 l0_1.length c0_1], .slice A1 l1.length c1] w fun e w' => ∃ v0_ : Value, e = .returned (v0_) ∧ Kd.S k26a 26 w' w.heap.size (fun _ => True) v0_ r ∧ Below w.heap.size w w' := by
 have hu26 := Try.underlying26
 have hu41 := Try.underlying41
 unfold spec_veAlong.f at h
 by_cases hg : l1.length ≤ 1000 ∧ l0_0.length ≤ 1000 ∧ l0_1.length ≤ 1000
 ·rw [if_pos hg] at h
  have HG := Aside0.mk hg
  have HH := Aside0.mk h
  have HR0 := Aside0.mk hr0_0
  have HR1 := Aside0.mk hr0_1
  have HC0 := Aside0.mk hc0_0
  have HC1 := Aside0.mk hc0_1
  have HR2 := Aside0.mk hr1
  have HB1 := Aside0.mk (below_drew1 (below_alloc (Below.refl w.heap.size w) (.cells #[.slice A0_0 l0_0.length c0_0, .slice A0_1 l0_1.length c0_1] 26)))
  have BK1 := Aside0.mk (va_new w (.cells #[.slice A0_0 l0_0.length c0_0, .slice A0_1 l0_1.length c0_1] 26))
  have hc0 := (blk_cell (blk_drew BK1.out) 0).trans rfl
  have hc1' := (blk_cell (blk_drew BK1.out) 1).trans rfl
  clear hg h hr0_0 hr0_1 hc0_0 hc0_1 hr1 hc1
  have hc1 := hc1'
  clear hc1'
  go_enter Try.func80, Try.ntmps80
  go_wp2
  refine start_ (n := 9) (S := fun w' => w'.cell? ⟨w.heap.size, 0, none⟩ = some (.slice A0_0 l0_0.length c0_0) ∧ w'.cell? ⟨w.heap.size, 1, none⟩ = some (.slice A0_1 l0_1.length c0_1)) (ds := []) #[false, false, false, false, false, false, false, false, false] (by kernel_rfl) rfl rfl ⟨hc0, hc1⟩ (fun hHeld => ?_)
  refine pure_ (i := 0) (N := some 8) (v := ?_) (a' := ?_) #[true, false, false, false, false, false, false, false, false] rfl rfl (by kernel_rfl) (fun _ _ _ h => h) (Or.inl ⟨by rfl, ?_⟩) ?_ ?_
  rotate_left
  ·intro w'
   go_simp
   with_reducible rfl
  rotate_left
  ·simp only [Act.put, List.setIfInBounds_toArray, List.set_cons_zero, List.set_cons_succ, i64_w, i32_w]
   rfl
  refine pure_ (i := 3) (N := some 11) (v := ?_) (a' := ?_) #[true, false, false, true, false, false, false, false, false] rfl rfl (by kernel_rfl) (fun _ _ _ h => h) (Or.inl ⟨by rfl, ?_⟩) ?_ ?_
  rotate_left
  ·intro w'
   go_simp
   with_reducible rfl
  rotate_left
  ·simp only [Act.put, List.setIfInBounds_toArray, List.set_cons_zero, List.set_cons_succ, i64_w, i32_w]
   rfl
  refine take_ (i := 1) (N := some 9) (v := ?_) (a' := ?_) #[true, true, false, true, false, false, false, false, false] rfl rfl (by kernel_rfl) (fun _ _ _ h => h) (Or.inl ⟨by rfl, ?_⟩) hHeld ?_ ?_
  rotate_left
  ·rintro w' ⟨s0, s1⟩
   go_simp
   with_reducible rfl
  rotate_left
  ·simp only [Act.put, List.setIfInBounds_toArray, List.set_cons_zero, List.set_cons_succ, i64_w, i32_w]
   rfl
  refine take_ (i := 4) (N := some 12) (v := ?_) (a' := ?_) #[true, true, false, true, true, false, false, false, false] rfl rfl (by kernel_rfl) (fun _ _ _ h => h) (Or.inl ⟨by rfl, ?_⟩) hHeld ?_ ?_
  rotate_left
  ·rintro w' ⟨s0, s1⟩
   go_simp
   with_reducible rfl
  rotate_left
  ·simp only [Act.put, List.setIfInBounds_toArray, List.set_cons_zero, List.set_cons_succ, i64_w, i32_w]
   rfl
  refine one_ (i := 2) (N := some 10) #[true, true, true, true, true, false, false, false, false] rfl rfl (by kernel_rfl) (by decide) (fun K hK => ?_)
  refine goes_ Try.func62 (by kernel_rfl) rfl #[.slice A0_0 l0_0.length c0_0] (by rfl) rfl rfl (by (try simp only [List.map_toArray, List.map_cons, List.map_nil]); first | done | rfl) ?_
  refine (spec_l1Own.calls _ _ l0_0 l0_0 _ (Kd.C_below HR0.out HB1.out) HC0.out (by unfold spec_l1Own.f; simp only [Option.bind_some, List.length_nil, List.nil_append]; rw [if_pos (by have h_ := HG.out; omega)])).mono ?_
  rintro e w2 ⟨v_, rfl, ho, hb⟩
  obtain ⟨Ao10, co10, rfl⟩ := Kd.R_slice ho
  refine ⟨_, rfl, ?_⟩
  have HB2 := Aside0.mk (below_then HB1.out HB1.out.size hb)
  have O2 := Aside0.mk (Kd.R_lower ho HB1.out.size)
  have BK2 := Aside0.mk (blk_below (blk_drew BK1.out) hb)
  replace O2 := Aside0.mk (Kd.R_types O2.out BK2.out (by decide))
  refine hK.out _ _ ⟨pw_cell_below hb hHeld.1, pw_cell_below hb hHeld.2⟩ (fun hHeld => ?_)
  clear hK K
  refine norm_ (a' := ?_) ?_ ?_
  rotate_left
  ·show Act.put _ (some 10) _ = _
   simp only [Act.put, List.setIfInBounds_toArray, List.set_cons_zero, List.set_cons_succ, i64_w, i32_w]
   rfl
  refine one_ (i := 5) (N := some 13) #[true, true, true, true, true, true, false, false, false] rfl rfl (by kernel_rfl) (by decide) (fun K hK => ?_)
  refine goes_ Try.func62 (by kernel_rfl) rfl #[.slice A0_1 l0_1.length c0_1] (by rfl) rfl rfl (by (try simp only [List.map_toArray, List.map_cons, List.map_nil]); first | done | rfl) ?_
  refine (spec_l1Own.calls _ _ l0_1 l0_1 _ (Kd.C_below HR1.out HB2.out) HC1.out (by unfold spec_l1Own.f; simp only [Option.bind_some, List.length_nil, List.nil_append]; rw [if_pos (by have h_ := HG.out; omega)])).mono ?_
  rintro e w3 ⟨v_, rfl, ho, hb⟩
  obtain ⟨Ao13, co13, rfl⟩ := Kd.R_slice ho
  refine ⟨_, rfl, ?_⟩
  have HB3 := Aside0.mk (below_then HB2.out HB2.out.size hb)
  have O3 := Aside0.mk (Kd.R_lower ho HB2.out.size)
  have BK3 := Aside0.mk (blk_below BK2.out hb)
  have O2b := Aside0.mk (Kd.R_mono (Kd.R_elder' O2.out (Kd.R_base ho) hb) (fun k hk => (⟨hk.1.2, hk.2⟩ : k ≠ w.heap.size ∧ _)))
  replace O3 := Aside0.mk (Kd.R_mono (Kd.R_types (Kd.R_lower (Kd.R_new' ho (Kd.R_lt O2.out)) HB2.out.size) BK3.out (by decide)) (fun k hk => (⟨hk.2, hk.1.2⟩ : k ≠ w.heap.size ∧ _)))
  refine hK.out _ _ ⟨pw_cell_below hb hHeld.1, pw_cell_below hb hHeld.2⟩ (fun hHeld => ?_)
  clear hK K
  refine norm_ (a' := ?_) ?_ ?_
  rotate_left
  ·show Act.put _ (some 13) _ = _
   simp only [Act.put, List.setIfInBounds_toArray, List.set_cons_zero, List.set_cons_succ, i64_w, i32_w]
   rfl
  refine pure_ (i := 6) (N := some 14) (v := ?_) (a' := ?_) #[true, true, true, true, true, true, true, false, false] rfl rfl (by kernel_rfl) (fun _ _ _ h => h) (Or.inl ⟨by rfl, ?_⟩) ?_ ?_
  rotate_left
  ·intro w'
   go_simp
   with_reducible rfl
  rotate_left
  ·simp only [Act.put, List.setIfInBounds_toArray, List.set_cons_zero, List.set_cons_succ, i64_w, i32_w]
   rfl
  refine one_ (i := 7) (N := some 15) #[true, true, true, true, true, true, true, true, false] rfl rfl (by kernel_rfl) (by decide) (fun K hK => ?_)
  refine Kd.R_lit_step k26a (w0 := w) w.heap.size 26 rfl (N := 15) rfl (xs := [(⟨l0_0, l0_1⟩ : S26)]) (inner := [.slice Ao10 l0_0.length co10, .slice Ao13 l0_1.length co13]) (ok := fun k => k ≠ w.heap.size) (okp := fun k => k ≠ w.heap.size) ?hr ?hp (fun _ h => h) (by have h_ := blk_lt BK3.out; omega) HB3.out HB3.out.size (by simp) ?_
  case hr => first | (go_simp; done) | (go_simp; rfl)
  case hp => exact Reps.c2 (k26a_mkM _ _ _ ⟨l0_0, l0_1⟩ O2b.out O3.out) (Reps.none _ _)
  intro v15 w4 ho hb4 hg_ hn_
  have BK4 := Aside0.mk (blk_grown BK3.out hg_ (by simp))
  have HB4 := Aside0.mk hb4
  have O4 := Aside0.mk (va_one ho)
  refine hK.out _ _ ⟨(blk_cell BK4.out 0).trans rfl, (blk_cell BK4.out 1).trans rfl⟩ (fun hHeld => ?_)
  clear hK K
  refine norm_ (a' := ?_) ?_ ?_
  rotate_left
  ·show Act.put _ (some 15) _ = _
   simp only [Act.put, List.setIfInBounds_toArray, List.set_cons_zero, List.set_cons_succ, i64_w, i32_w]
   rfl
  refine pure_ (i := 8) (N := some 5) (v := ?_) (a' := ?_) #[true, true, true, true, true, true, true, true, true] rfl rfl (by kernel_rfl) (fun _ _ _ h => h) (Or.inl ⟨by rfl, ?_⟩) ?_ ?_
  rotate_left
  ·intro w'
   go_simp
   with_reducible rfl
  rotate_left
  ·simp only [Act.put, List.setIfInBounds_toArray, List.set_cons_zero, List.set_cons_succ, i64_w, i32_w]
   rfl
  refine done_ (by kernel_rfl) ?_
  clear hc0 hc1 HB1 BK1 HB2 BK2 O2 HB3 BK3 O2b O3
  have hn1 := HG.out.1
  go_wp2
  have HLF := Aside0.mk (Kd.C_kept_came (Kd.heap_int .i64) (S := fun k => k = w.heap.size ∨ v15.ownBlock = some k) HR0.out HB4.out (fun k hk => by rcases hk with rfl | hk; exact Nat.le_refl _; exact Kd.S_base O4.out k hk))
  have HLH := Aside0.mk (Kd.C_kept_came (Kd.heap_int .i64) (S := fun k => k = w.heap.size ∨ v15.ownBlock = some k) HR1.out HB4.out (fun k hk => by rcases hk with rfl | hk; exact Nat.le_refl _; exact Kd.S_base O4.out k hk))
  go_loopg [5, 18] l1.length (fun gg v5 v18 wr => ∃ (i : Nat) (s h : List Int) (As : Option Addr) (cs : Nat) (Ah : Option Addr) (ch : Nat) (xs : List S26), v18 = .int .i64 (i : Int) ∧ Aside0 (i ≤ l1.length) ∧ Aside0 (l1.length - i ≤ gg) ∧ Aside0 (xs.length = i + 1) ∧ Aside0 (spec_veAlong.l0 (l1.drop i) s h xs = some r) ∧ Aside0 (Kd.S k26a 26 wr w.heap.size (fun k => k ≠ w.heap.size) v5 xs) ∧ Aside0 (wr.heap[w.heap.size]? = some (.cells #[.slice As s.length cs, .slice Ah h.length ch] 26 (0, 0))) ∧ Aside0 (∀ W, Kept wr W (fun k => k = w.heap.size ∨ v5.ownBlock = some k) → Kd.C (Kd.int .i64) W As s.length s) ∧ Aside0 (∀ W, Kept wr W (fun k => k = w.heap.size ∨ v5.ownBlock = some k) → Kd.C (Kd.int .i64) W Ah h.length h) ∧ Aside0 (s.length ≤ cs ∧ h.length ≤ ch) ∧ Aside0 (Below w.heap.size w wr))
  case atStart => exact ⟨0, l0_0, l0_1, A0_0, c0_0, A0_1, c0_1, _, rfl, ⟨by omega⟩, ⟨by omega⟩, ⟨rfl⟩, ⟨by rw [List.drop_zero]; exact HH.out⟩, O4, BK4, HLF, HLH, ⟨HC0.out, HC1.out⟩, HB4⟩
  case round =>
   clear HLF HLH O4 BK4 HB4 HH
   obtain ⟨i, s, h, As, cs, Ah, ch, xs, rfl, HI, HGG, HX, HE, HO, BK, HLF, HLH, HCC, HB⟩ := hrel
   by_cases hlt : i < l1.length
   ·have c1_ : decide ((i : Int) < (l1.length : Int)) = true := decide_eq_true (by omega)
    have c2_ : decide (i < l1.length) = true := decide_eq_true hlt
    obtain ⟨ad, e1, hx0, hx1⟩ := at_T41 (Kd.C_below HR2.out HB.out) (i : Int) (by omega) (by omega)
    cases e1
    rw [Int.toNat_natCast] at hx0 hx1
    have q1 : (0 ≤ (i : Int)) = True := eq_true (by omega)
    have q2 : ((i : Int) < (l1.length : Int)) = True := eq_true (by omega)
    have q3 : (i < l1.length) = True := eq_true hlt
    have e2 : l1.drop i = rd_T41 l1 (i : Int) :: l1.drop (i + 1) := by
     rw [List.drop_eq_getElem_cons hlt]
     unfold rd_T41
     rw [Int.toNat_natCast, List.getD_eq_getElem?_getD, List.getElem?_eq_getElem hlt]
     rfl
    have hE := HE.out
    rw [e2] at hE
    simp only [spec_veAlong.l0] at hE
    obtain ⟨⟨t1, t2⟩, hM, hE⟩ := Option.bind_eq_some_iff.mp hE
    dsimp only at hE
    generalize rd_T41 l1 (i : Int) = m at hx0 hx1 hM
    have HE2 := Aside0.mk hE
    have HM := Aside0.mk hM
    have HL := Aside0.mk hlt
    clear hE hM HE e2 hlt
    have hc0 := (blk_cell BK.out 0).trans rfl
    have hc1 := (blk_cell BK.out 1).trans rfl
    have hb0 := blk_lt BK.out
    go_wp2_with (first | (go_at_call 76; refine (spec_veMake.calls _ _ s _ _ h _ _ t1 t2 _ (HLF.out _ ((Kept.refl _ _).alloc _)) HCC.out.1 (HLH.out _ ((Kept.refl _ _).alloc _)) HCC.out.2 HM.out).mono ?_; rintro e w2 ⟨v0, v1, rfl, o0, o1, hb⟩; have BK2 := Aside0.mk (blk_below (blk_alloc BK.out _) hb); have HO2 := Aside0.mk (Kd.S_below (Kd.S_alloc (Kd.S_mono (ok' := fun k => k ≠ w.heap.size ∧ ¬ ((k ≠ w.heap.size ∧ some k ≠ u5.ownBlock) ∧ wr.heap.size ≤ k)) (Kd.S_bound HO.out) (fun k hk => ⟨hk.1, fun h2 => by have h1_ := hk.2.2.1; omega⟩)) _) hb); have HB2 := Aside0.mk (below_then (below_alloc HB.out _) (below_alloc HB.out _).size hb); have hlt5 := Kd.S_lt HO.out; obtain ⟨Ao0, co0, rfl⟩ := Kd.R_slice o0; obtain ⟨Ao1, co1, rfl⟩ := Kd.R_slice o1; have P0 := Aside0.mk (Kd.R_lower (Kd.R_mono (ok' := fun k => ((k ≠ w.heap.size ∧ some k ≠ u5.ownBlock) ∧ wr.heap.size ≤ k) ∧ some k ≠ (Value.slice Ao1 t2.length co1).ownBlock) (Kd.R_bound o0) (fun k hk => ⟨⟨⟨by have h1_ := hk.2.1; simp only [World.size_alloc] at h1_; omega, fun e => by have h1_ := hk.2.1; have h2_ := hlt5 k e.symm; simp only [World.size_alloc] at h1_; omega⟩, by have h1_ := hk.2.1; simp only [World.size_alloc] at h1_; omega⟩, hk.1⟩)) (below_alloc HB.out _).size); have P1 := Aside0.mk (Kd.R_lower (Kd.R_mono (ok' := fun k => ((k ≠ w.heap.size ∧ some k ≠ u5.ownBlock) ∧ wr.heap.size ≤ k) ∧ some k ≠ (Value.slice Ao0 t1.length co0).ownBlock) (Kd.R_bound o1) (fun k hk => ⟨⟨⟨by have h1_ := hk.2.1; simp only [World.size_alloc] at h1_; omega, fun e => by have h1_ := hk.2.1; have h2_ := hlt5 k e.symm; simp only [World.size_alloc] at h1_; omega⟩, by have h1_ := hk.2.1; simp only [World.size_alloc] at h1_; omega⟩, hk.1⟩)) (below_alloc HB.out _).size); clear o0 o1 hb hlt5 hc0 hc1 hx0 hx1; have hd0 := (blk_cell BK2.out 0).trans rfl; have hd1 := (blk_cell BK2.out 1).trans rfl; have hf0 := blk_frozen BK2.out 0; have hf1 := blk_frozen BK2.out 1) | ((with_reducible refine gate_builtin (b := .append) (xs := #[.tmp 25, .tmp 27]) rfl ?_); at_builtin; refine Kd.S_append k26a (w0 := w) w.heap.size rfl (.tmp 25) (.tmp 27) 54 26 (.agg #[(.slice none 0 0), (.slice none 0 0)]) 48 rfl Try.underlying54 info26 rfl (by decide) (by omega) u5 xs (⟨t1, t2⟩ : S26) [.slice Ao0 t1.length co0, .slice Ao1 t2.length co1] (fun k => k ≠ w.heap.size) (fun k => (k ≠ w.heap.size ∧ some k ≠ u5.ownBlock) ∧ wr.heap.size ≤ k) rfl (by first | (go_simp; done) | (go_simp; rfl)) ?aP (fun _ hk => hk.1) ?aF ?aO ?aB ?aS ?aL ?_; (case aP => exact k26a_mkM _ _ _ ⟨t1, t2⟩ (Kd.R_far (p := ⟨w.heap.size, 1, none⟩) (Kd.R_far (p := ⟨w.heap.size, 0, none⟩) P0.out (fun _ hk => hk.1.1.1) _) (fun _ hk => hk.1.1.1) _) (Kd.R_far (p := ⟨w.heap.size, 1, none⟩) (Kd.R_far (p := ⟨w.heap.size, 0, none⟩) P1.out (fun _ hk => hk.1.1.1) _) (fun _ hk => hk.1.1.1) _)); (case aF => exact fun k hk => by have h_ := blk_lt BK2.out; simp only [World.size_setCell] at hk; omega); (case aO => exact Kd.S_far (p := ⟨w.heap.size, 1, none⟩) (Kd.S_far (p := ⟨w.heap.size, 0, none⟩) HO2.out (fun _ hk => hk.1) _) (fun _ hk => hk.1) _); (case aB => exact below_set (below_set HB2.out (Nat.le_refl _)) (Nat.le_refl _)); (case aS => exact (below_set (below_set HB2.out (Nat.le_refl _)) (Nat.le_refl _)).size); (case aL => have h1_ := HX.out; have h2_ := HL.out; have h3_ := HG.out.1; omega); intro v5' w5 ho hb hg hat; have ne_ : some w.heap.size ≠ u5.ownBlock := (fun e => (Kd.S_R HO2.out).1 _ e.symm |>.1 rfl); have BK5 := Aside0.mk (blk_grown (blk_put (blk_put (cs := #[.slice As s.length cs, .slice Ah h.length ch]) BK2.out 0 (.slice Ao0 t1.length co0) rfl) 1 (.slice Ao1 t2.length co1) rfl) hg ne_); have HO5 := Aside0.mk ho; have HB5 := Aside0.mk hb; have Q0 := Aside0.mk (Kd.R_after (Kd.R_far (p := ⟨w.heap.size, 1, none⟩) (Kd.R_far (p := ⟨w.heap.size, 0, none⟩) (Kd.R_mono P0.out (fun k hk => (hk.1.1 : k ≠ w.heap.size ∧ _))) (fun _ hk => hk.1) _) (fun _ hk => hk.1) _) hg hat); have Q1 := Aside0.mk (Kd.R_after (Kd.R_far (p := ⟨w.heap.size, 1, none⟩) (Kd.R_far (p := ⟨w.heap.size, 0, none⟩) (Kd.R_mono P1.out (fun k hk => (hk.1.1 : k ≠ w.heap.size ∧ _))) (fun _ hk => hk.1) _) (fun _ hk => hk.1) _) hg hat); clear ho hb hg hat ne_ hd0 hd1 hf0 hf1))
    go_roundg (l1.length - (i + 1))
    case measure => have := HGG.out; have := HL.out; omega
    case rel =>
     have hl_ := HL.out
     have hg_ := HG.out.1
     refine ⟨i + 1, t1, t2, Ao0, co0, Ao1, co1, xs ++ [⟨t1, t2⟩], by rw [show wrap64 ((i : Int) + 1) = ((i + 1 : Nat) : Int) by unfold wrap64; omega], ⟨by have := HL.out; omega⟩, ⟨by omega⟩, ⟨by rw [List.length_append, HX.out]; rfl⟩, HE2, HO5, BK5, ⟨Kd.C_kept_own Q0.out (fun k hk h2 => ?_)⟩, ⟨Kd.C_kept_own Q1.out (fun k hk h2 => ?_)⟩, ⟨(Kd.R_reads' Q0.out).2.1, (Kd.R_reads' Q1.out).2.1⟩, HB5⟩
     ·rcases h2 with h2 | h2
      ·exact hk.1 h2
      ·exact hk.2 h2.symm
     ·rcases h2 with h2 | h2
      ·exact hk.1 h2
      ·exact hk.2 h2.symm
   ·have c1_ : decide ((i : Int) < (l1.length : Int)) = false := decide_eq_false (by omega)
    have c2_ : decide (i < l1.length) = false := decide_eq_false hlt
    have hE := HE.out
    rw [List.drop_eq_nil_of_le (by omega)] at hE
    simp only [spec_veAlong.l0, Option.some.injEq] at hE
    subst hE
    clear hlt
    go_wp2
    go_ret
    exact ⟨_, rfl, Kd.S_mono HO.out (fun _ _ => trivial), HB.out⟩
 ·rw [if_neg hg] at h
  exact absurd h (by simp)
theorem spec_veAlong.calls (A0_0 : Option Addr) (c0_0 : Nat) (l0_0 : List Int) (A0_1 : Option Addr) (c0_1 : Nat) (l0_1 : List Int) (A1 : Option Addr) (c1 : Nat) (l1 : List S41) (r : List S26) (w : World) (hr0_0 : Kd.C (Kd.int .i64) w A0_0 l0_0.length l0_0) (hc0_0 : l0_0.length ≤ c0_0) (hr0_1 : Kd.C (Kd.int .i64) w A0_1 l0_1.length l0_1) (hc0_1 : l0_1.length ≤ c0_1) (hr1 : Kd.C k41 w A1 l1.length l1) (hc1 : l1.length ≤ c1) (h : spec_veAlong.f l0_0 l0_1 l1 = some r) :
  Calls Try.prog 80 #[.agg #[.slice A0_0 l0_0.length c0_0, .slice A0_1 l0_1.length c0_1], .slice A1 l1.length c1] w fun e w' => ∃ v0_ : Value, e = .returned (v0_) ∧ Kd.S k26 26 w' w.heap.size (fun _ => True) v0_ r ∧ Below w.heap.size w w' := by
 refine (spec_veAlong.callsA A0_0 c0_0 l0_0 A0_1 c0_1 l0_1 A1 c1 l1 r w hr0_0 hc0_0 hr0_1 hc0_1 hr1 hc1 h).mono ?_
 rintro e w' ⟨v, rfl, hr, hb⟩
 exact ⟨v, rfl, k26a_S hr, hb⟩

/-! ### spec_TakenIn: function 30 -/
def spec_TakenIn.l0 : Nat → List (S41) → Int → Int → List (S26) → Int → Int → Option (Int × Int × Bool)
  | 0, _, _, _, _, _, _ => none
  | k + 1, x1, x7, x8, x21, x22, x23 => if x23 < x22 then (if 0 ≤ x23 then (if x23 < (x21.length : Int) then (if x23 < (x1.length : Int) then ((spec_veAmount.f ((rd_T26 x21 x23).f0) ((rd_T26 x21 x23).f1) ((rd_T41 x1 x23).f0) ((rd_T41 x1 x23).f1)).bind fun t184 => (if ((rd_T41 x1 x23).f0) < 0 then (spec_TakenIn.l0 k x1 (wrap64 (x7 + t184)) x8 x21 x22 (wrap64 (x23 + 1))) else (if ((rd_T41 x1 x23).f1) < 0 then (spec_TakenIn.l0 k x1 x7 (wrap64 (x8 + t184)) x21 x22 (wrap64 (x23 + 1))) else (spec_TakenIn.l0 k x1 x7 x8 x21 x22 (wrap64 (x23 + 1)))))) else (none)) else (none)) else (none)) else (some (x7, x8, true))
def spec_TakenIn.f (k : Nat) (l0_0 : List Int) (l0_1 : List Int) (l1 : List (S41)) : Option (Int × Int × Bool) := (spec_veMoves.f k l0_0 l0_1 l1).bind fun t173 => (if t173 = true then ((spec_veAlong.f l0_0 l0_1 l1).bind fun t174 => (if 0 ≤ (l1.length : Int) then (if (l1.length : Int) ≤ (t174.length : Int) then ((some (t174.take ((l1.length : Int) : Int).toNat : List (S26))).bind fun y177 => (spec_TakenIn.l0 k l1 0 0 y177 (y177.length : Int) 0)) else (none)) else (none))) else (some (0, 0, false)))
theorem spec_TakenIn.mono_l : ∀ k, (∀ y0 y1 y2 y3 y4 y5, LeO (spec_TakenIn.l0 k y0 y1 y2 y3 y4 y5) (spec_TakenIn.l0 (k + 1) y0 y1 y2 y3 y4 y5))
 | 0 => fun _ _ _ _ _ _ r h => by simp [spec_TakenIn.l0] at h
 | k + 1 => by
  have ih0 := spec_TakenIn.mono_l k
  ·intro y0 y1 y2 y3 y4 y5
   unfold spec_TakenIn.l0
   repeat' first
   | (with_reducible exact ih0 _ _ _ _ _ _)
   | (with_reducible exact spec_veMoves.mono _ _ _ _)
   | (with_reducible exact LeO.refl _)
   | (with_reducible exact LeO.none _)
   | (with_reducible refine LeO.ite ?_ ?_)
   | (with_reducible refine LeO.bind ?_ (fun _ => ?_))
   | exact ih0 _ _ _ _ _ _
   | exact spec_veMoves.mono _ _ _ _
   | exact LeO.none _
   | refine LeO.ite ?_ ?_
   | refine LeO.bind ?_ (fun _ => ?_)
theorem spec_TakenIn.mono : ∀ a0 a1 a2 k, LeO (spec_TakenIn.f k a0 a1 a2) (spec_TakenIn.f (k + 1) a0 a1 a2) := by
 intro a0 a1 a2 k
 have ih0 := spec_TakenIn.mono_l k
 unfold spec_TakenIn.f
 repeat' first
   | (with_reducible exact ih0 _ _ _ _ _ _)
   | (with_reducible exact spec_veMoves.mono _ _ _ _)
   | (with_reducible exact LeO.refl _)
   | (with_reducible exact LeO.none _)
   | (with_reducible refine LeO.ite ?_ ?_)
   | (with_reducible refine LeO.bind ?_ (fun _ => ?_))
   | exact ih0 _ _ _ _ _ _
   | exact spec_veMoves.mono _ _ _ _
   | exact LeO.none _
   | refine LeO.ite ?_ ?_
   | refine LeO.bind ?_ (fun _ => ?_)
set_option maxHeartbeats 8000000 in
set_option maxRecDepth 100000 in
theorem spec_TakenIn.calls (k : Nat) (A0_0 : Option Addr) (c0_0 : Nat) (l0_0 : List Int) (A0_1 : Option Addr) (c0_1 : Nat) (l0_1 : List Int) (A1 : Option Addr) (c1 : Nat) (l1 : List S41) (r1 : Int) (r2 : Int) (r3 : Bool) (w : World) (hr0_0 : Kd.C (Kd.int .i64) w A0_0 l0_0.length l0_0) (hc0_0 : l0_0.length ≤ c0_0) (hr0_1 : Kd.C (Kd.int .i64) w A0_1 l0_1.length l0_1) (hc0_1 : l0_1.length ≤ c0_1) (hr1 : Kd.C k41 w A1 l1.length l1) (hc1 : l1.length ≤ c1) (h : spec_TakenIn.f k l0_0 l0_1 l1 = some (r1, r2, r3)) :
  Calls Try.prog 30 #[.agg #[.slice A0_0 l0_0.length c0_0, .slice A0_1 l0_1.length c0_1], .slice A1 l1.length c1] w fun e w' => e = .returned (.tuple #[.int .i64 r1, .int .i64 r2, .bool r3]) ∧ Below w.heap.size w w' := by
 have hu26 := Try.underlying26
 have hu41 := Try.underlying41
 obtain ⟨t, hT, h⟩ := Option.bind_eq_some_iff.mp h
 have HA := Aside0.mk (below_alloc (Below.refl w.heap.size w) (.cells #[.slice A0_0 l0_0.length c0_0, .slice A0_1 l0_1.length c0_1] 26))
 have BK1 := Aside0.mk (va_new w (.cells #[.slice A0_0 l0_0.length c0_0, .slice A0_1 l0_1.length c0_1] 26))
 have hT1 := Aside0.mk (fun (W : World) (hb : Below w.heap.size w W) => spec_veMoves.calls k A0_0 c0_0 l0_0 A0_1 c0_1 l0_1 A1 c1 l1 t W (Kd.C_below hr0_0 hb) hc0_0 (Kd.C_below hr0_1 hb) hc0_1 (Kd.C_below hr1 hb) hc1 hT)
 cases t with
 | false =>
  rw [if_neg (by decide)] at h
  simp only [Option.some.injEq, Prod.mk.injEq] at h
  obtain ⟨rfl, rfl, rfl⟩ := h
  clear hr0_0 hc0_0 hr0_1 hc0_1 hr1 hc1
  go_enter Try.func30, Try.ntmps30
  go_wp2_with (go_at_call 79; refine (hT1.out _ HA.out).mono ?_; rintro e w1 ⟨rfl, hb⟩; have HB := Aside0.mk (below_then HA.out HA.out.size hb); clear hb)
  go_ret3
  exact ⟨rfl, HB.out⟩
 | true =>
  rw [if_pos rfl] at h
  obtain ⟨xs0, hX, h⟩ := Option.bind_eq_some_iff.mp h
  by_cases hg : (l1.length : Int) ≤ (xs0.length : Int)
  ·rw [if_pos (by omega), if_pos hg, Option.bind_some, Int.toNat_natCast] at h
   have hyl : (xs0.take l1.length).length = l1.length := by rw [List.length_take]; omega
   have HH := Aside0.mk h
   have HYL := Aside0.mk hyl
   have HP := Aside0.mk (fun (W : World) (hb : Below w.heap.size w W) => spec_veAlong.calls A0_0 c0_0 l0_0 A0_1 c0_1 l0_1 A1 c1 l1 xs0 W (Kd.C_below hr0_0 hb) hc0_0 (Kd.C_below hr0_1 hb) hc0_1 (Kd.C_below hr1 hb) hc1 hX)
   have HR1 := Aside0.mk hr1
   have HM1 := Aside0.mk hr1.2.1
   have HG := Aside0.mk hg
   have q1 : (0 ≤ (l1.length : Int)) = True := eq_true (by omega)
   clear hr0_0 hc0_0 hr0_1 hc0_1 hr1 hc1 h hyl hg
   generalize hy : xs0.take l1.length = y at HH HYL
   have HY := Aside0.mk hy
   clear hy
   go_enter Try.func30, Try.ntmps30
   go_wp2_with (first | (go_at_call 79; refine (hT1.out _ HA.out).mono ?_; rintro e w1 ⟨rfl, hb⟩; have BL1 := Aside0.mk (blk_below BK1.out hb); have HB := Aside0.mk (below_then HA.out HA.out.size hb); clear hb; have hc1 := (blk_cell BL1.out 0).trans rfl; have hc2 := (blk_cell BL1.out 1).trans rfl) | (go_at_call 80; refine (HP.out _ HB.out).mono ?_; rintro e w2 ⟨v, rfl, ho, hb⟩; have HB2 := Aside0.mk (below_then HB.out HB.out.size hb); obtain ⟨Ao, co, rfl⟩ := Kd.S_slice ho; have hrd := Kd.S_reads' ho; have HOL := Aside0.mk (Kd.S_lower (Kd.S_take ho (m := l1.length) (by have h_ := HG.out; omega)) HB.out.size); have hcap : l1.length ≤ co := (by have h_ := HG.out; have h2_ := hrd.2.1; omega); obtain ⟨i0_, hi0_, _, hsz_, _⟩ := info_parts info26; have hcut := cut_to (P := Try.prog) 54 26 .i64 Try.underlying54 hi0_ Ao xs0.length co (l1.length : Int) (by omega) HG.out hrd.2.1; rw [Int.toNat_natCast] at hcut; clear hb ho hrd hc1 hc2 hsz_))
   rw [HY.out] at HOL
   have hl1 := HYL.out
   go_loopg [7, 8, 23] k (fun kq v7 v8 v23 wr => ∃ (x7 x8 : Int) (i : Nat), v7 = .int .i64 x7 ∧ v8 = .int .i64 x8 ∧ v23 = .int .i64 (i : Int) ∧ Aside0 (spec_TakenIn.l0 kq l1 x7 x8 y (y.length : Int) (i : Int) = some (r1, r2, r3)) ∧ Aside0 (i ≤ l1.length) ∧ Aside0 (Kd.S k26 26 wr w.heap.size (fun _ => True) (.slice Ao l1.length co) y) ∧ Aside0 (Below w.heap.size w wr))
   case atStart => exact ⟨0, 0, 0, rfl, rfl, rfl, HH, ⟨by omega⟩, HOL, HB2⟩
   case round =>
    clear HH HOL HB2 hcut hcap
    obtain ⟨x7, x8, i, rfl, rfl, rfl, HE, HI, HO, HB⟩ := hrel
    cases gk with
    | zero => exact absurd HE.out (by simp [spec_TakenIn.l0])
    | succ k1 =>
     have H := HE.out
     clear HE
     simp only [spec_TakenIn.l0] at H
     by_cases hlt : i < l1.length
     ·have c1_ : decide ((i : Int) < (l1.length : Int)) = true := decide_eq_true (by omega)
      have c2_ : decide (i < l1.length) = true := decide_eq_true hlt
      rw [if_pos (by omega), if_pos (by omega), if_pos (by omega), if_pos (by omega)] at H
      obtain ⟨t184, hM, H⟩ := Option.bind_eq_some_iff.mp H
      obtain ⟨ad, e1, hx0, hx1⟩ := at_T41 (Kd.C_below HR1.out HB.out) (i : Int) (by omega) (by omega)
      cases e1
      obtain ⟨ag, B0, d0, B1, d1, e2, hy0, hy1, hl0, hC0, hl1', hC1⟩ := at_T26 (Kd.S_reads' HO.out).2.2 (i : Int) (by omega) (by omega)
      cases e2
      rw [Int.toNat_natCast] at hx0 hx1 hy0 hy1
      have q2 : (0 ≤ (i : Int)) = True := eq_true (by omega)
      have q3 : ((i : Int) < (l1.length : Int)) = True := eq_true (by omega)
      have q4 : (i < l1.length) = True := eq_true hlt
      generalize rd_T41 l1 (i : Int) = m at hx0 hx1 hM H
      generalize (rd_T26 y (i : Int)).f0 = s at hy0 hl0 hC0 hM
      generalize (rd_T26 y (i : Int)).f1 = h at hy1 hl1' hC1 hM
      have HL := Aside0.mk hlt
      have HM := Aside0.mk hM
      have HX := Aside0.mk (And.intro hx0 hx1)
      clear hlt hM
      go_wp2
      have hbn := below_drew1 (below_alloc (Below.refl wr.heap.size wr) (.cells #[.slice B0 s.length d0, .slice B1 h.length d1] 26))
      have HC0 := Aside0.mk (Kd.C_below hC0 hbn)
      have HC1 := Aside0.mk (Kd.C_below hC1 hbn)
      have HL0 := Aside0.mk hl0
      have HL1 := Aside0.mk hl1'
      replace hx0 := pw_cell_below hbn hx0
      replace hx1 := pw_cell_below hbn hx1
      have HB1 := Aside0.mk (below_drew1 (below_alloc HB.out (.cells #[.slice B0 s.length d0, .slice B1 h.length d1] 26)))
      have BKn := Aside0.mk (blk_drew (va_new wr (.cells #[.slice B0 s.length d0, .slice B1 h.length d1] 26)))
      have HOW := Aside0.mk (Kd.S_drew (Kd.S_alloc HO.out (.cells #[.slice B0 s.length d0, .slice B1 h.length d1] 26)))
      have hz0 := (blk_cell BKn.out 0).trans rfl
      have hz1 := (blk_cell BKn.out 1).trans rfl
      clear hC0 hC1 hl0 hl1' hy0 hy1 hbn HB HO
      have HBW := HB1
      generalize hWe : wr.alloc (.cells #[.slice B0 s.length d0, .slice B1 h.length d1] 26) = W1 at hx0 hx1 hz0 hz1 HC0 HC1 HBW HOW BKn ⊢
      clear hWe HB1
      refine start_ (n := 7) (S := fun w' => w'.cell? ⟨wr.heap.size, 0, none⟩ = some (.slice B0 s.length d0) ∧ w'.cell? ⟨wr.heap.size, 1, none⟩ = some (.slice B1 h.length d1) ∧ w'.cell? (ad.add (i * 2)) = some (.int .i64 m.f0) ∧ w'.cell? ⟨(ad.add (i * 2)).block, (ad.add (i * 2)).off + 1, none⟩ = some (.int .i64 m.f1)) (ds := []) #[false, false, false, false, false, false, false] (by kernel_rfl) rfl rfl ⟨hz0, hz1, hx0, hx1⟩ (fun hHeld => ?_)
      refine pure_ (i := 1) (N := some 29) (v := ?_) (a' := ?_) #[false, true, false, false, false, false, false] rfl rfl (by kernel_rfl) (fun _ _ _ h => h) (Or.inl ⟨by rfl, ?_⟩) ?_ ?_
      rotate_left
      ·intro w'
       go_simp
       with_reducible rfl
      rotate_left
      ·simp only [Act.put, List.setIfInBounds_toArray, List.set_cons_zero, List.set_cons_succ, i64_w, i32_w]
       rfl
      refine pure_ (i := 2) (N := some 30) (v := ?_) (a' := ?_) #[false, true, true, false, false, false, false] rfl rfl (by kernel_rfl) (fun _ _ _ h => h) (Or.inl ⟨by rfl, ?_⟩) ?_ ?_
      rotate_left
      ·intro w'
       go_simp
       with_reducible rfl
      rotate_left
      ·simp only [Act.put, List.setIfInBounds_toArray, List.set_cons_zero, List.set_cons_succ, i64_w, i32_w]
       rfl
      refine pure_ (i := 3) (N := some 31) (v := ?_) (a' := ?_) #[false, true, true, true, false, false, false] rfl rfl (by kernel_rfl) (fun _ _ _ h => h) (Or.inl ⟨by rfl, ?_⟩) ?_ ?_
      rotate_left
      ·intro w'
       go_simp
       with_reducible rfl
      rotate_left
      ·simp only [Act.put, List.setIfInBounds_toArray, List.set_cons_zero, List.set_cons_succ, i64_w, i32_w]
       rfl
      refine take_ (i := 0) (N := some 28) (v := ?_) (a' := ?_) #[true, true, true, true, false, false, false] rfl rfl (by kernel_rfl) (fun _ _ _ h => h) (Or.inl ⟨by rfl, ?_⟩) hHeld ?_ ?_
      rotate_left
      ·rintro w' ⟨s0, s1, s2, s3⟩
       go_simp
       with_reducible rfl
      rotate_left
      ·simp only [Act.put, List.setIfInBounds_toArray, List.set_cons_zero, List.set_cons_succ, i64_w, i32_w]
       rfl
      refine take_ (i := 4) (N := some 32) (v := ?_) (a' := ?_) #[true, true, true, true, true, false, false] rfl rfl (by kernel_rfl) (fun _ _ _ h => h) (Or.inl ⟨by rfl, ?_⟩) hHeld ?_ ?_
      rotate_left
      ·rintro w' ⟨s0, s1, s2, s3⟩
       go_simp
       with_reducible rfl
      rotate_left
      ·simp only [Act.put, List.setIfInBounds_toArray, List.set_cons_zero, List.set_cons_succ, i64_w, i32_w]
       rfl
      refine one_ (i := 5) (N := some 33) #[true, true, true, true, true, true, false] rfl rfl (by kernel_rfl) (by decide) (fun K hK => ?_)
      refine goes_ Try.func81 (by kernel_rfl) rfl #[.agg #[.slice B0 s.length d0, .slice B1 h.length d1], .agg #[.int .i64 m.f0, .int .i64 m.f1]] (by rfl) rfl rfl (by (try simp only [List.map_toArray, List.map_cons, List.map_nil]); first | done | rfl) ?_
      refine (spec_veAmount.calls _ _ s _ _ h m.f0 m.f1 t184 _ HC0.out HL0.out HC1.out HL1.out HM.out).mono ?_
      rintro e w2 ⟨rfl, hb⟩
      refine ⟨_, rfl, ?_⟩
      have HB2 := Aside0.mk (below_then HBW.out HBW.out.size hb)
      have HO2 := Aside0.mk (Kd.S_below HOW.out hb)
      have hx0' := pw_cell_below hb hHeld.2.2.1
      have hx1' := pw_cell_below hb hHeld.2.2.2
      refine hK.out _ _ ⟨pw_cell_below hb hHeld.1, pw_cell_below hb hHeld.2.1, hx0', hx1'⟩ (fun hHeld => ?_)
      clear hK K
      refine norm_ (a' := ?_) ?_ ?_
      rotate_left
      ·show Act.put _ (some 33) _ = _
       simp only [Act.put, List.setIfInBounds_toArray, List.set_cons_zero, List.set_cons_succ, i64_w, i32_w]
       rfl
      refine pure_ (i := 6) (N := some 11) (v := ?_) (a' := ?_) #[true, true, true, true, true, true, true] rfl rfl (by kernel_rfl) (fun _ _ _ h => h) (Or.inl ⟨by rfl, ?_⟩) ?_ ?_
      rotate_left
      ·intro w'
       go_simp
       with_reducible rfl
      rotate_left
      ·simp only [Act.put, List.setIfInBounds_toArray, List.set_cons_zero, List.set_cons_succ, i64_w, i32_w]
       rfl
      refine done_ (by kernel_rfl) ?_
      have HX2 := Aside0.mk (And.intro hx0' hx1')
      clear hx0 hx1 hz0 hz1 hx0' hx1' hHeld hb
      obtain ⟨hx0, hx1⟩ := HX2.out
      have hw : wrap64 ((i : Int) + 1) = ((i + 1 : Nat) : Int) := by have h1_ := HL.out; have h2_ := HM1.out; unfold wrap64; (try simp only [maxLen] at h2_); omega
      rw [hw] at H
      by_cases c5 : m.f0 < 0
      ·rw [if_pos c5] at H
       have c5b : decide (m.f0 < 0) = true := decide_eq_true c5
       have HH := Aside0.mk H
       clear H c5
       go_wp2
       go_roundg k1
       case measure => omega
       case rel => exact ⟨_, _, i + 1, rfl, rfl, by rw [hw], HH, ⟨HL.out⟩, HO2, HB2⟩
      ·rw [if_neg c5] at H
       have c5b : decide (m.f0 < 0) = false := decide_eq_false c5
       clear c5
       by_cases c6 : m.f1 < 0
       ·rw [if_pos c6] at H
        have c6b : decide (m.f1 < 0) = true := decide_eq_true c6
        have HH := Aside0.mk H
        clear H c6
        go_wp2
        go_roundg k1
        case measure => omega
        case rel => exact ⟨_, _, i + 1, rfl, rfl, by rw [hw], HH, ⟨HL.out⟩, HO2, HB2⟩
       ·rw [if_neg c6] at H
        have c6b : decide (m.f1 < 0) = false := decide_eq_false c6
        have HH := Aside0.mk H
        clear H c6
        go_wp2
        go_roundg k1
        case measure => omega
        case rel => exact ⟨_, _, i + 1, rfl, rfl, by rw [hw], HH, ⟨HL.out⟩, HO2, HB2⟩
     ·have c1_ : decide ((i : Int) < (l1.length : Int)) = false := decide_eq_false (by omega)
      have c2_ : decide (i < l1.length) = false := decide_eq_false hlt
      rw [if_neg (by omega)] at H
      simp only [Option.some.injEq, Prod.mk.injEq] at H
      obtain ⟨rfl, rfl, rfl⟩ := H
      clear hlt
      go_wp2
      go_ret3
      exact ⟨rfl, HB.out⟩
  ·rw [if_pos (by omega), if_neg hg] at h
   exact absurd h (by simp)

/-! ### laws_toMove: function 27 -/
def laws_toMove.f (a0_0 : Int) (a0_1 : Int) : Option (Int × Int) := some (a0_0, a0_1)
set_option maxHeartbeats 8000000 in
set_option maxRecDepth 100000 in
theorem laws_toMove.calls (a0_0 : Int) (a0_1 : Int) (r1 : Int) (r2 : Int) (w : World) (h : laws_toMove.f a0_0 a0_1 = some (r1, r2)) :
  Calls Try.prog 27 #[.agg #[.int .i64 a0_0, .int .i64 a0_1]] w fun e w' => e = .returned (.agg #[.int .i64 r1, .int .i64 r2]) ∧ Below w.heap.size w w' := by
 have hu39 := Try.underlying39
 have hu41 := Try.underlying41
 have HB := Aside0.mk (Below.refl w.heap.size w)
 have H : (some (a0_0, a0_1)) = some (r1, r2) := h
 clear h
 simp only [Option.some.injEq, Prod.mk.injEq] at H
 obtain ⟨rfl, rfl⟩ := H
 go_enter Try.func27, Try.ntmps27
 go_wp2_with (first | ((with_reducible refine gate_dst (N := 1) rfl ?_); refine box_event ?hg (N := 1) ?hd (cs := #[.int .i64 a0_0, .int .i64 a0_1]) (t := 39) ?hr ?_; (case hd => rfl); (case hg => rfl); (case hr => first | (go_simp; done) | (go_simp; rfl)); intro gb187 hg w2 hbox hb; have BK187 := Aside0.mk (hbox); have GW187 := xg HB hg; have GE187 := xg HB hg; replace HB := xp HB hb; clear hb hbox hg) | ((with_reducible refine gate_dst (N := 2) rfl ?_); refine box_event ?hg (N := 2) ?hd (cs := #[.int .i64 0, .int .i64 0]) (t := 41) ?hr ?_; (case hd => rfl); (case hg => rfl); (case hr => first | (go_simp; done) | (go_simp; rfl)); intro gb188 hg w3 hbox hb; have BK188 := Aside0.mk (hbox); have GW188 := xg HB hg; have GE188 := xg HB hg; replace HB := xp HB hb; have NB187_188 := xl BK187 hg; have NB188_187 := xh BK187 hg; replace BK187 := xk BK187 hb; clear hb hbox hg) | ((with_reducible refine gate_dst (N := 3) rfl ?_); refine box_event ?hg (N := 3) ?hd (cs := #[.int .i64 0, .int .i64 0]) (t := 41) ?hr ?_; (case hd => rfl); (case hg => rfl); (case hr => first | (go_simp; done) | (go_simp; rfl)); intro gb189 hg w4 hbox hb; have BK189 := Aside0.mk (hbox); have GW189 := xg HB hg; have GE189 := xg HB hg; replace HB := xp HB hb; have NB187_189 := xl BK187 hg; have NB189_187 := xh BK187 hg; replace BK187 := xk BK187 hb; have NB188_189 := xl BK188 hg; have NB189_188 := xh BK188 hg; replace BK188 := xk BK188 hb; clear hb hbox hg; have hnb5 := NB187_188.out; have hnc5 := NB188_187.out; have hnb6 := NB187_189.out; have hnc6 := NB189_187.out; have hcz7_0 : w4.cell? ⟨gb187, 0, none⟩ = some (.int .i64 a0_0) := (blk_cell BK187.out 0).trans rfl; have hcz7_1 : w4.cell? ⟨gb187, 1, none⟩ = some (.int .i64 a0_1) := (blk_cell BK187.out 1).trans rfl; have hfz7_0 := blk_frozen BK187.out 0; have hfz7_1 := blk_frozen BK187.out 1; have hnb8 := NB189_188.out; have hnc8 := NB188_189.out; have hcz9_0 : w4.cell? ⟨gb189, 0, none⟩ = some (.int .i64 0) := (blk_cell BK189.out 0).trans rfl; have hcz9_1 : w4.cell? ⟨gb189, 1, none⟩ = some (.int .i64 0) := (blk_cell BK189.out 1).trans rfl; have hfz9_0 := blk_frozen BK189.out 0; have hfz9_1 := blk_frozen BK189.out 1; have hcz10_0 : w4.cell? ⟨gb188, 0, none⟩ = some (.int .i64 0) := (blk_cell BK188.out 0).trans rfl; have hcz10_1 : w4.cell? ⟨gb188, 1, none⟩ = some (.int .i64 0) := (blk_cell BK188.out 1).trans rfl; have hfz10_0 := blk_frozen BK188.out 0; have hfz10_1 := blk_frozen BK188.out 1))
 refine bodyPost_ret (results_cell_row rfl _ _ gb188 41 #[.int .i64 a0_0, .int .i64 a0_1] (0, 0) _ rfl (by (with_reducible repeat (first | refine blk_drewN ?_ _ | refine blk_drew ?_ | refine blk_alloc ?_ _)); refine blk_put (cs := #[.int .i64 a0_0, .int .i64 0]) ?_ 1 _ rfl; (with_reducible repeat (first | refine blk_drewN ?_ _ | refine blk_drew ?_ | refine blk_alloc ?_ _)); refine blk_put (cs := #[.int .i64 0, .int .i64 0]) ?_ 0 _ rfl; (with_reducible repeat (first | refine blk_drewN ?_ _ | refine blk_drew ?_ | refine blk_alloc ?_ _)); refine blk_far ?_ NB188_189.out _; (with_reducible repeat (first | refine blk_drewN ?_ _ | refine blk_drew ?_ | refine blk_alloc ?_ _)); refine blk_far ?_ NB188_189.out _; (with_reducible repeat (first | refine blk_drewN ?_ _ | refine blk_drew ?_ | refine blk_alloc ?_ _)); exact BK188.out) Try.underlying41 rfl (by kernel_rfl)) rfl ?_
 exact ⟨by first | rfl | (simp [errW_none, errW_some] <;> rfl) | (simp [*, errW_none, errW_some] <;> rfl), by repeat (first | (with_reducible first | exact HB.out | apply below_alloc | apply pw_below_drewN | apply below_drew1 | refine below_set ?_ GE187.out | refine below_set ?_ GE188.out | refine below_set ?_ GE189.out) | exact HB.out)⟩

/-! ### laws_toMoveS: function 31 -/
def laws_toMoveS.l0 : Nat → List (S39) → List (S41) → Int → Option ((List (S41)))
  | 0, _, _, _ => none
  | k + 1, x0, x3, x4 => if x4 < (x0.length : Int) then (if 0 ≤ x4 then ((laws_toMove.f ((rd_T39 x0 x4).f0) ((rd_T39 x0 x4).f1)).bind fun bt194 => (if x4 < (x3.length : Int) then (laws_toMoveS.l0 k x0 (x3.set (x4 : Int).toNat (⟨bt194.1, bt194.2⟩ : S41)) (wrap64 (x4 + 1))) else (none))) else (none)) else (some x3)
def laws_toMoveS.f (k : Nat) (l0 : List (S39)) : Option ((List (S41))) := if 0 ≤ (l0.length : Int) then (if ((l0.length : Int) : Int).toNat ≤ 17592186044416 then (laws_toMoveS.l0 k l0 (List.replicate ((l0.length : Int) : Int).toNat z41) 0) else (none)) else (none)
theorem laws_toMoveS.mono_l : ∀ k, (∀ y0 y1 y2, LeO (laws_toMoveS.l0 k y0 y1 y2) (laws_toMoveS.l0 (k + 1) y0 y1 y2))
 | 0 => fun _ _ _ r h => by simp [laws_toMoveS.l0] at h
 | k + 1 => by
  have ih0 := laws_toMoveS.mono_l k
  ·intro y0 y1 y2
   unfold laws_toMoveS.l0
   repeat' first
   | (with_reducible exact ih0 _ _ _)
   | (with_reducible exact LeO.refl _)
   | (with_reducible exact LeO.none _)
   | (with_reducible refine LeO.ite ?_ ?_)
   | (with_reducible refine LeO.bind ?_ (fun _ => ?_))
   | exact ih0 _ _ _
   | exact LeO.none _
   | refine LeO.ite ?_ ?_
   | refine LeO.bind ?_ (fun _ => ?_)
theorem laws_toMoveS.mono : ∀ a0 k, LeO (laws_toMoveS.f k a0) (laws_toMoveS.f (k + 1) a0) := by
 intro a0 k
 have ih0 := laws_toMoveS.mono_l k
 unfold laws_toMoveS.f
 repeat' first
   | (with_reducible exact ih0 _ _ _)
   | (with_reducible exact LeO.refl _)
   | (with_reducible exact LeO.none _)
   | (with_reducible refine LeO.ite ?_ ?_)
   | (with_reducible refine LeO.bind ?_ (fun _ => ?_))
   | exact ih0 _ _ _
   | exact LeO.none _
   | refine LeO.ite ?_ ?_
   | refine LeO.bind ?_ (fun _ => ?_)
set_option maxHeartbeats 8000000 in
set_option maxRecDepth 100000 in
theorem laws_toMoveS.calls (k : Nat) (A0 : Option Addr) (c0 : Nat) (l0 : List (S39)) (r : List (S41)) (w : World) (hr0 : Kd.C k39 w A0 l0.length l0) (hc0 : l0.length ≤ c0) (h : laws_toMoveS.f k l0 = some r) :
  Calls Try.prog 31 #[.slice A0 l0.length c0] w fun e w' => ∃ v0_ : Value, e = .returned (v0_) ∧ Kd.R k41 41 w' w.heap.size (fun _ => True) v0_ r ∧ Below w.heap.size w w' := by
 have hu39 := Try.underlying39
 have hu41 := Try.underlying41
 have HR0 := Aside0.mk hr0
 have HC0 := Aside0.mk hc0
 clear hr0 hc0
 have HB := Aside0.mk (Below.refl w.heap.size w)
 have H : (if 0 ≤ (l0.length : Int) then (if ((l0.length : Int) : Int).toNat ≤ 17592186044416 then (laws_toMoveS.l0 k l0 (List.replicate ((l0.length : Int) : Int).toNat z41) 0) else (none)) else (none)) = some r := h
 clear h
 by_cases c2 : 0 ≤ (l0.length : Int)
 ·rw [if_pos c2] at H
  have c2b0 := eq_true c2
  have c2b1 : decide (0 ≤ (l0.length : Int)) = true := decide_eq_true c2
  clear c2
  by_cases c3 : ((l0.length : Int) : Int).toNat ≤ 17592186044416
  ·rw [if_pos c3] at H
   have c3b0 := eq_true c3
   have c3b1 : decide (((l0.length : Int) : Int).toNat ≤ 17592186044416) = true := decide_eq_true c3
   clear c3
   obtain ⟨y190, hy190⟩ : ∃ y_ : List (S41), y_ = (List.replicate ((l0.length : Int) : Int).toNat z41) := ⟨_, rfl⟩
   replace H : (laws_toMoveS.l0 k l0 y190 0) = some r := by first | (rw [hy190]; with_reducible exact H) | (have H2_ := (Option.bind_some _ _).symm.trans H; rw [hy190]; with_reducible exact H2_) | (have H2_ := (Option.bind_some _ _).symm.trans H; with_reducible exact H2_) | with_reducible exact H | (rw [hy190]; exact H) | exact H
   have Ny190 := Aside0.mk hy190
   clear hy190
   have H' := Aside0.mk H
   clear H
   go_enter Try.func31, Try.ntmps31
   go_wp2_with (first | ((with_reducible refine gate_dst (N := 7) rfl ?_); refine Kd.R_make k41 _ 41 rfl (N := 7) rfl 48 _ _ rfl (l0.length : Int) rfl rfl Try.underlying48 (.agg #[(.int .i64 0), (.int .i64 0)]) 16 info41 rfl (by decide) (by omega) z41 (ok := fun _ => True) (okp := fun _ => True) (k41_mkM _ _ _ z41 ) (fun _ hk => hk) trivial (of_decide_eq_true (by first | (with_reducible assumption) | assumption)) (Nat.le_trans (Nat.mul_le_mul_right _ (of_decide_eq_true (by first | (with_reducible assumption) | assumption) : (l0.length : Int).toNat ≤ 17592186044416)) (by omega)) (Below.refl _ _) (Nat.le_refl _) ?_; intro v191 w4 ho5 hb hg_ hnew_; clear hg_ hnew_; (first | rw [← Ny190.out] at ho5 | (simp only [Int.reduceToNat] at ho5; rw [← Ny190.out] at ho5)); have HO192 := Aside0.mk (Kd.R_lower ho5 (below_size (xs HB.out))); replace HB := xp HB hb; clear hb ho5))
   go_loopg [4] k (fun kq v4 w' => ∃ (x3_1 : List (S41)) (x4_1 : Int), v4 = .int .i64 x4_1 ∧ Aside0 (laws_toMoveS.l0 kq l0 x3_1 x4_1 = some r) ∧ Aside0 (kq ≤ k) ∧ Aside0 (Kd.R k41 41 w' w.heap.size (fun _ => True) v191 x3_1) ∧ Aside0 (Below w.heap.size w w'))
   case atStart => exact ⟨(y190), (0), (by first | rfl | (simp; done) | (simp [*]; done)), H', ⟨Nat.le_refl _⟩, ⟨xr HO192.out⟩, ⟨xs HB.out⟩⟩
   case round =>
    clear H'
    try clear c2
    try clear c2b0
    try clear c2b1
    try clear p2
    try clear c3
    try clear c3b0
    try clear c3b1
    obtain ⟨x3_1, x4_1, rfl, HA, HK1, HO_3, HB⟩ := hrel
    cases gk with
    | zero => exact absurd HA.out (by simp [laws_toMoveS.l0])
    | succ k1 =>
     have H := HA.out
     clear HA
     simp only [laws_toMoveS.l0] at H
     by_cases c6 : x4_1 < (l0.length : Int)
     ·rw [if_pos c6] at H
      have c6b0 : decide (x4_1 < (l0.length : Int)) = true := decide_eq_true c6
      clear c6
      by_cases c7 : 0 ≤ x4_1
      ·rw [if_pos c7] at H
       have c7b0 : decide (0 ≤ x4_1) = true := decide_eq_true c7
       clear c7
       replace H := Option.bind_eq_some_iff.mp H
       obtain ⟨⟨t194, t195⟩, A80, H⟩ := H
       replace H : (if x4_1 < (x3_1.length : Int) then (laws_toMoveS.l0 k1 l0 (x3_1.set (x4_1 : Int).toNat (⟨t194, t195⟩ : S41)) (wrap64 (x4_1 + 1))) else (none)) = some r := H
       have A8 := Aside0.mk A80
       clear A80
       by_cases c9 : x4_1 < (x3_1.length : Int)
       ·rw [if_pos c9] at H
        have c9b0 : decide (x4_1 < (x3_1.length : Int)) = true := decide_eq_true c9
        clear c9
        obtain ⟨y196, hy196⟩ : ∃ y_ : List (S41), y_ = (x3_1.set (x4_1 : Int).toNat (⟨t194, t195⟩ : S41)) := ⟨_, rfl⟩
        replace H : (laws_toMoveS.l0 k1 l0 y196 (wrap64 (x4_1 + 1))) = some r := by first | (rw [hy196]; with_reducible exact H) | (have H2_ := (Option.bind_some _ _).symm.trans H; rw [hy196]; with_reducible exact H2_) | (have H2_ := (Option.bind_some _ _).symm.trans H; with_reducible exact H2_) | with_reducible exact H | (rw [hy196]; exact H) | exact H
        have Ny196 := Aside0.mk hy196
        clear hy196
        have H' := Aside0.mk H
        clear H
        have p193 : 0 ≤ (x4_1 : Int) := of_decide_eq_true (by first | (with_reducible assumption) | assumption)
        have q193 : x4_1 < (l0.length : Int) := of_decide_eq_true (by first | (with_reducible assumption) | assumption)
        obtain ⟨ad193, e193, hx193_0, hx193_1⟩ := at_T39 HR0.out x4_1 p193 q193
        cases e193
        replace hx193_0 := (HB.out.cell (World.block_lt_of_cell? w _ hx193_0)).trans hx193_0
        replace hx193_1 := (HB.out.cell (World.block_lt_of_cell? w _ hx193_1)).trans hx193_1
        replace p193 := eq_true p193
        replace q193 := eq_true q193
        go_wp2_with (first | ((with_reducible refine gate_callee (f := 27) rfl ?_); refine goesL_ (some 20) rfl rfl Try.func27 (by kernel_rfl) rfl #[.agg #[.int .i64 ((rd_T39 l0 x4_1).f0), .int .i64 ((rd_T39 l0 x4_1).f1)]] rfl (by (try simp only [List.map_toArray, List.map_cons, List.map_nil]); first | done | rfl | (simp only [List.length_drop, List.length_take]; rfl)) ?_; (with_reducible refine (laws_toMove.calls ((rd_T39 l0 x4_1).f0) ((rd_T39 l0 x4_1).f1) t194 t195 _ A8.out).mono ?_); rintro e w11 ⟨rfl, hb⟩; refine ⟨_, rfl, ?_⟩; replace HO_3 := xq HO_3 hb; replace HB := xp HB hb; (try clear hb); (try clear hb2); (try clear hk); (try clear hi); have p10 : 0 ≤ (x4_1 : Int) := of_decide_eq_true (by first | (with_reducible assumption) | assumption); have q10 : (x4_1 : Int) < ((x3_1.length : Int) : Int) := of_decide_eq_true (by first | (with_reducible assumption) | assumption); obtain ⟨go10, co10, eo10, gb10, gl10, cl10, HG10⟩ := Kd.R_form HO_3.out (by omega); (first | cases eo10 | (injection eo10 with ea_ en_ ec_; (first | subst ea_ | (injection ea_ with ea_; subst ea_)); subst ec_; clear en_)); have GB10 := Aside0.mk gb10; have GG10 := Aside0.mk HG10; clear gb10 gl10 HG10; obtain ⟨ce10, hcl10, hM10, hcc10, hfr10⟩ := Kd.R_elem HO_3.out z41 (x4_1 : Int) p10 q10; obtain rfl := k41_openM hM10; have hx10_0 : w11.cell? ⟨go10, (x4_1 : Int).toNat * 2, none⟩ = some (.int .i64 ((rd_T41 x3_1 x4_1).f0)) := hcc10 0 _ rfl; have hx10_1 : w11.cell? ⟨go10, (x4_1 : Int).toNat * 2 + 1, none⟩ = some (.int .i64 ((rd_T41 x3_1 x4_1).f1)) := hcc10 1 _ rfl; have hf10_0 : w11.frozen? ⟨go10, (x4_1 : Int).toNat * 2, none⟩ = false := hfr10 0; have hf10_1 : w11.frozen? ⟨go10, (x4_1 : Int).toNat * 2 + 1, none⟩ = false := hfr10 1; (try clear hM10); clear hcl10 hcc10 hfr10; replace p10 := eq_true p10; replace q10 := eq_true q10; have HX12 := Aside0.mk (show Kd.R k41 41 w11 w.heap.size (fun _ => True) (.slice (some ⟨go10, 0, none⟩) x3_1.length co10) x3_1 from (xr HO_3.out)); obtain ⟨ce12, hcl12, hM12, hcc12, hfr12⟩ := Kd.R_elem HX12.out z41 (x4_1 : Int) (of_decide_eq_true (by first | (with_reducible assumption) | assumption)) (by have h_ : (x4_1 : Int) < ((x3_1.length : Int) : Int) := of_decide_eq_true (by first | (with_reducible assumption) | assumption); first | exact h_ | (have e_ := (Kd.R_reads' HO_3.out).1; omega) | simpa using h_); obtain rfl := k41_openM hM12; have HP12 := Kd.R_seg HX12.out (x4_1 : Int) (of_decide_eq_true (by first | (with_reducible assumption) | assumption)) (by have h_ : (x4_1 : Int) < ((x3_1.length : Int) : Int) := of_decide_eq_true (by first | (with_reducible assumption) | assumption); first | exact h_ | (have e_ := (Kd.R_reads' HO_3.out).1; omega) | simpa using h_) (seg := [.int .i64 t194, .int .i64 t195]) (j := 0) hcl12 hcc12 (show 2 ≤ 2 from by decide) (x' := (⟨t194, t195⟩ : S41)) (k41_mkM _ _ _ (⟨t194, t195⟩ : S41) ) (fun _ hk => hk); have hx12_0 := hcc12 0 _ rfl; (try simp only [show (k41).sz = 2 from rfl, Nat.mul_one, Nat.add_zero] at hx12_0); have hf12_0 := hfr12 0; (try simp only [show (k41).sz = 2 from rfl, Nat.mul_one, Nat.add_zero] at hf12_0); have hx12_1 := hcc12 1 _ rfl; (try simp only [show (k41).sz = 2 from rfl, Nat.mul_one, Nat.add_zero] at hx12_1); have hf12_1 := hfr12 1; (try simp only [show (k41).sz = 2 from rfl, Nat.mul_one, Nat.add_zero] at hf12_1); (try clear hM12); clear hcl12 hcc12 hfr12) | ((with_reducible refine gate_store (t := 41) (p := 21) rfl ?_); refine store_event (t := 41) (p := 21) (v := ?vo_w13) (w1 := ((w11.setCell ⟨go10, (x4_1 : Int).toNat * 2, none⟩ (.int .i64 t194)).setCell ⟨go10, (x4_1 : Int).toNat * 2 + 1, none⟩ (.int .i64 t195))) ?hg ?ho ?hn ?hr ?_; (case ho => rfl); (case hg => rfl); (case hn => rfl); (case hr => first | (go_simp; done) | (go_simp; rfl)); intro w13 hw; have hg : w11.grownBy w13 (some go10) := (by rw [hw]; exact HP12.2); have hp_ : Kd.R k41 41 w13 w.heap.size (fun _ => True) (.slice (some ⟨go10, 0, none⟩) x3_1.length co10) y196 := (by rw [hw, Ny196.out]; exact HP12.1); clear HP12; replace HO_3 := Aside0.mk (hp_); replace HB := Aside0.mk ((by rw [hw]; exact below_set (below_set (HB.out) GB10.out) GB10.out : Below w.heap.size w w13)); clear hg hw hp_))
        go_roundg k1
        case measure => have := HK1.out; omega
        case rel => exact ⟨(y196), (wrap64 (x4_1 + 1)), (by first | rfl | (simp; done) | (simp [*]; done)), H', ⟨by have := HK1.out; omega⟩, ⟨xr HO_3.out⟩, ⟨xs HB.out⟩⟩
       ·rw [if_neg c9] at H
        exact absurd H (by simp)
      ·rw [if_neg c7] at H
       exact absurd H (by simp)
     ·rw [if_neg c6] at H
      have c6b0 : decide (x4_1 < (l0.length : Int)) = false := decide_eq_false c6
      clear c6
      obtain rfl := Option.some.inj H
      go_wp2
      go_ret
      exact ⟨_, by first | rfl | (simp [errW_none, errW_some] <;> rfl) | (simp [*, errW_none, errW_some] <;> rfl), by (with_reducible repeat (first | apply Kd.R_alloc | apply Kd.R_drewN | apply Kd.R_drew)); exact HO_3.out, by repeat (first | (with_reducible first | exact HB.out | apply below_alloc | apply pw_below_drewN | apply below_drew1) | exact HB.out)⟩
  ·rw [if_neg c3] at H
   exact absurd H (by simp)
 ·rw [if_neg c2] at H
  exact absurd H (by simp)

/-! ### slices_Clone_int_int: function 96 -/
def slices_Clone_int_int.f (l0 : List Int) : Option (List Int) := if l0.length < 17592186044416 then some l0 else none
set_option maxHeartbeats 8000000 in
set_option maxRecDepth 100000 in
theorem slices_Clone_int_int.calls (A0 : Option Addr) (c0 : Nat) (l0 : List Int) (r : List Int) (w : World) (hr0 : Kd.C (Kd.int .i64) w A0 l0.length l0) (hc0 : l0.length ≤ c0) (h : slices_Clone_int_int.f l0 = some r) :
  Calls Try.prog 96 #[.slice A0 l0.length c0] w fun e w' => ∃ v0_ : Value, e = .returned (v0_) ∧ Kd.R (Kd.int .i64) 3 w' w.heap.size (fun _ => True) v0_ r ∧ Below w.heap.size w w' := by
 have q22 : ∀ (w : World) (a : Option Addr) (n c n' c' : Nat), (binOp .eql 22 (.slice a n c) (.slice none n' c')).run Try.prog w = .ok (.bool a.isNone) w := fun w a n c n' c' => Lib.run_eql_slice_nil w _ _ a n c n' c' Try.underlying22
 unfold slices_Clone_int_int.f at h
 by_cases c2 : l0.length < 17592186044416
 ·rw [if_pos c2] at h
  obtain rfl := Option.some.inj h
  clear h
  have LMc2 := Aside0.mk c2
  clear c2
  have HR0 := Aside0.mk hr0
  have HB := Aside0.mk (Below.refl w.heap.size w)
  cases A0 with
  | none =>
   have hz : l0 = [] := by
    by_cases h0 : 0 < l0.length
    ·obtain ⟨ad, e1, _⟩ := HR0.out.2.2 h0
     cases e1
    ·exact List.eq_nil_of_length_eq_zero (by omega)
   subst hz
   clear hr0
   go_enter Try.func96, Try.ntmps96
   go_wp2
   go_ret
   exact ⟨.slice none 0 0, rfl, Kd.R_nil _ _ _ _ _, HB.out⟩
  | some ad =>
   clear hr0
   obtain ⟨y149, hy149⟩ : ∃ y_ : List Int, y_ = [] := ⟨_, rfl⟩
   have Ny149 := Aside0.mk hy149
   clear hy149
   go_enter Try.func96, Try.ntmps96
   go_wp2_with (first | ((with_reducible refine gate_dst (N := 5) rfl ?_); refine Kd.R_lit (Kd.int .i64) _ 3 ?hg (N := 5) ?hd (xs := ([] : List Int)) (inner := []) (ok := fun _ => True) (okp := fun _ => True) ?hr ?hp (fun _ hk => hk) trivial (Below.refl _ _) (Nat.le_refl _) (by simp) ?_; (case hd => rfl); (case hg => rfl); (case hr => first | (go_simp; done) | (go_simp; rfl)); (case hp => exact (Reps.none _ _)); intro v150 w3 ho4 hb hg_ hnew_; clear hg_ hnew_; (first | rw [← Ny149.out] at ho4 | (simp only [Int.reduceToNat] at ho4; rw [← Ny149.out] at ho4)); have HO151 := Aside0.mk (Kd.R_lower ho4 (below_size (xs HB.out))); replace HB := xp HB hb; clear hb ho4) | ((with_reducible refine gate_builtin (b := .append) (xs := #[.tmp 5, .tmp 6]) rfl ?_); at_builtin; refine Kd.R_append_rows (Kd.int .i64) (w0 := w) w.heap.size rfl (.tmp 5) (.tmp 6) 22 3 (.int .i64 0) 8 rfl Try.underlying22 info3 rfl (by decide) (by omega) v150 y149 l0 _ _ _ (fun _ => True) (fun _ => False) rfl rfl ?aO ?aR (fun _ _ h => h) (fun _ h => h.elim) ?aF ?aB ?aS ?aL ?_; (case aR => exact xd ((Kd.C_below HR0.out HB.out))); (case aB => exact (xs HB.out)); (case aF => exact (fun _ _ => trivial)); (case aO => exact (xr HO151.out)); (case aS => exact (below_size (xs HB.out))); (case aL => have h1_ := LMc2.out; rw [Ny149.out]; simp only [List.length_nil]; omega); intro v153 w5 ho hb hg hat; rw [Ny149.out, List.nil_append] at ho; replace HB := Aside0.mk (hb); have HO154 := Aside0.mk (ho); clear HO151; clear ho hb hg hat))
   go_ret
   exact ⟨_, by first | rfl | (simp; done) | (simp [*]; done), by (with_reducible repeat (first | apply Kd.R_alloc | apply Kd.R_drewN | apply Kd.R_drew)); exact HO154.out, (xs HB.out)⟩
 ·rw [if_neg c2] at h
  exact absurd h (by simp)

/-! ### impl_Vessels_own: function 65 -/
def impl_Vessels_own.f (l0_0 : List Int) (l0_1 : List Int) : Option (List Int × List Int) := (slices_Clone_int_int.f l0_0).bind fun t199 => ((slices_Clone_int_int.f l0_1).bind fun t202 => (some (t199, t202)))
def impl_Vessels_own.T1 : Bool × List (List Nat × List Nat) := (true, [([], []), ([0], [0]), ([1], [1]), ([], []), ([3], [3]), ([4, 2], [4]), ([2, 5], [2, 5]), ([6, 5, 0, 1, 2, 3, 4, 5, 6], [6])])
def impl_Vessels_own.B1 : List Nat := [0, 1, 3, 0, 8, 31, 63, 127]
theorem impl_Vessels_own.tab1 : rtab .any (opsOf Try.f65 1) = impl_Vessels_own.T1 := by kernel_rfl
theorem impl_Vessels_own.bits1 : waitsOk impl_Vessels_own.T1.2 impl_Vessels_own.B1 = true := by kernel_rfl
set_option maxHeartbeats 8000000 in
set_option maxRecDepth 100000 in
theorem impl_Vessels_own.calls (A0_0 : Option Addr) (c0_0 : Nat) (l0_0 : List Int) (A0_1 : Option Addr) (c0_1 : Nat) (l0_1 : List Int) (r1 : List Int) (r2 : List Int) (w : World) (hr0_0 : Kd.C (Kd.int .i64) w A0_0 l0_0.length l0_0) (hc0_0 : l0_0.length ≤ c0_0) (hr0_1 : Kd.C (Kd.int .i64) w A0_1 l0_1.length l0_1) (hc0_1 : l0_1.length ≤ c0_1) (h : impl_Vessels_own.f l0_0 l0_1 = some (r1, r2)) :
  Calls Try.prog 65 #[.agg #[.slice A0_0 l0_0.length c0_0, .slice A0_1 l0_1.length c0_1]] w fun e w' => ∃ v0_ v1_ : Value, e = .returned (.agg #[v0_, v1_]) ∧ Kd.R (Kd.int .i64) 3 w' w.heap.size (fun k_ => nV k_ v1_) v0_ r1 ∧ Kd.R (Kd.int .i64) 3 w' w.heap.size (fun k_ => nV k_ v0_) v1_ r2 ∧ Below w.heap.size w w' := by
 have hu26 := Try.underlying26
 have HR0_0 := Aside0.mk hr0_0
 have HC0_0 := Aside0.mk hc0_0
 clear hr0_0 hc0_0
 have HR0_1 := Aside0.mk hr0_1
 have HC0_1 := Aside0.mk hc0_1
 clear hr0_1 hc0_1
 have HB := Aside0.mk (Below.refl w.heap.size w)
 have H : ((slices_Clone_int_int.f l0_0).bind fun t199 => ((slices_Clone_int_int.f l0_1).bind fun t202 => (some (t199, t202)))) = some (r1, r2) := h
 clear h
 replace H := Option.bind_eq_some_iff.mp H
 obtain ⟨t199, A20, H⟩ := H
 replace H : ((slices_Clone_int_int.f l0_1).bind fun t202 => (some (t199, t202))) = some (r1, r2) := H
 have A2 := Aside0.mk A20
 clear A20
 replace H := Option.bind_eq_some_iff.mp H
 obtain ⟨t202, A30, H⟩ := H
 replace H : (some (t199, t202)) = some (r1, r2) := H
 have A3 := Aside0.mk A30
 clear A30
 simp only [Option.some.injEq, Prod.mk.injEq] at H
 obtain ⟨rfl, rfl⟩ := H
 go_enter Try.func65, Try.ntmps65
 try go_wp2_with (first | ((with_reducible refine gate_dst (N := 1) rfl ?_); refine box_event ?hg (N := 1) ?hd (cs := #[.slice A0_0 l0_0.length c0_0, .slice A0_1 l0_1.length c0_1]) (t := 26) ?hr ?_; (case hd => rfl); (case hg => rfl); (case hr => first | (go_simp; done) | (go_simp; rfl)); intro gb197 hg w4 hbox hb; have BK197 := Aside0.mk (hbox); have GW197 := xg HB hg; have GE197 := xg HB hg; replace HB := xp HB hb; clear hb hbox hg) | ((with_reducible refine gate_dst (N := 2) rfl ?_); refine box_event ?hg (N := 2) ?hd (cs := #[.slice none 0 0, .slice none 0 0]) (t := 26) ?hr ?_; (case hd => rfl); (case hg => rfl); (case hr => first | (go_simp; done) | (go_simp; rfl)); intro gb198 hg w5 hbox hb; have BK198 := Aside0.mk (hbox); have GW198 := xg HB hg; have GE198 := xg HB hg; replace HB := xp HB hb; have NB197_198 := xl BK197 hg; have NB198_197 := xh BK197 hg; replace BK197 := xk BK197 hb; clear hb hbox hg))
 replace BK197 := xv BK197
 replace BK198 := xv BK198
 replace HB := Aside0.mk (below_drew1 HB.out)
 refine start_ (n := 8) (S := fun w' => w'.cell? ⟨gb197, 0, none⟩ = some (.slice A0_0 l0_0.length c0_0) ∧ w'.cell? ⟨gb197, 1, none⟩ = some (.slice A0_1 l0_1.length c0_1)) (ds := []) #[false, false, false, false, false, false, false, false] (by kernel_rfl) rfl rfl ⟨(blk_cell BK197.out 0).trans rfl, (blk_cell BK197.out 1).trans rfl⟩ (fun hHeld => ?_); refine with_tabW impl_Vessels_own.tab1 impl_Vessels_own.bits1 (fun HT_ HW_ => ?_)
 generalize w5.drew = w6 at BK197 BK198 HB hHeld ⊢
 refine pure_ (i := 0) (N := some 3) (v := ?_) (a' := ?_) #[true, false, false, false, false, false, false, false] rfl rfl (any_of HT_.out (by kernel_rfl)) (fun _ _ _ h => h) (Or.inl ⟨by rfl, ?_⟩) ?_ ?_
 rotate_left
 ·intro w'
  go_simp
  with_reducible rfl
 rotate_left
 ·simp only [Act.put, List.setIfInBounds_toArray, List.set_cons_zero, List.set_cons_succ, i64_w, i32_w]
  rfl
 refine pure_ (i := 3) (N := some 6) (v := ?_) (a' := ?_) #[true, false, false, true, false, false, false, false] rfl rfl (any_of HT_.out (by kernel_rfl)) (fun _ _ _ h => h) (Or.inl ⟨by rfl, ?_⟩) ?_ ?_
 rotate_left
 ·intro w'
  go_simp
  with_reducible rfl
 rotate_left
 ·simp only [Act.put, List.setIfInBounds_toArray, List.set_cons_zero, List.set_cons_succ, i64_w, i32_w]
  rfl
 refine take_ (i := 1) (N := some 4) (v := ?_) (a' := ?_) #[true, true, false, true, false, false, false, false] rfl rfl (take_ofW HT_.out HW_.out (by kernel_rfl)) (fun _ _ _ h => h) (Or.inl ⟨by rfl, ?_⟩) hHeld ?_ ?_
 rotate_left
 ·rintro w' ⟨s0, s1⟩
  go_simp
  with_reducible rfl
 rotate_left
 ·simp only [Act.put, List.setIfInBounds_toArray, List.set_cons_zero, List.set_cons_succ, i64_w, i32_w]
  rfl
 refine take_ (i := 4) (N := some 7) (v := ?_) (a' := ?_) #[true, true, false, true, true, false, false, false] rfl rfl (take_ofW HT_.out HW_.out (by kernel_rfl)) (fun _ _ _ h => h) (Or.inl ⟨by rfl, ?_⟩) hHeld ?_ ?_
 rotate_left
 ·rintro w' ⟨s0, s1⟩
  go_simp
  with_reducible rfl
 rotate_left
 ·simp only [Act.put, List.setIfInBounds_toArray, List.set_cons_zero, List.set_cons_succ, i64_w, i32_w]
  rfl
 refine one_ (i := 2) (N := some 5) #[true, true, true, true, true, false, false, false] rfl rfl (one_of HT_.out (by kernel_rfl)) (by decide) (fun K hK => ?_)
 refine goes_ Try.func96 (by kernel_rfl) rfl #[.slice A0_0 l0_0.length c0_0] (by rfl) rfl rfl (by (try simp only [List.map_toArray, List.map_cons, List.map_nil]); first | done | rfl | (simp only [List.length_drop, List.length_take]; rfl)) ?_
 with_reducible refine (slices_Clone_int_int.calls _ _ l0_0 t199 _ ?side1 ?side2 A2.out).mono ?_
 (case side1 => exact xd ((Kd.C_below HR0_0.out HB.out)))
 (case side2 => exact HC0_0.out)
 rintro e w7 ⟨v200, rfl, ho0, hb⟩
 refine ⟨_, rfl, ?_⟩
 have HO201 := Aside0.mk (Kd.R_lower ho0 (below_size (xs HB.out)))
 replace BK197 := xk BK197 hb
 replace BK198 := xk BK198 hb
 replace HB := xp HB hb
 (try clear hb)
 (try clear hb2)
 (try clear hk)
 (try clear hi)
 (try clear ho0)
 refine hK.out _ _ ⟨(blk_cell BK197.out 0).trans rfl, (blk_cell BK197.out 1).trans rfl⟩ (fun hHeld => ?_)
 clear hK K
 refine norm_ (a' := ?_) ?_ ?_
 rotate_left
 ·show Act.put _ (some 5) _ = _
  simp only [Act.put, List.setIfInBounds_toArray, List.set_cons_zero, List.set_cons_succ, i64_w, i32_w]
  rfl
 refine one_ (i := 5) (N := some 8) #[true, true, true, true, true, true, false, false] rfl rfl (one_of HT_.out (by kernel_rfl)) (by decide) (fun K hK => ?_)
 refine goes_ Try.func96 (by kernel_rfl) rfl #[.slice A0_1 l0_1.length c0_1] (by rfl) rfl rfl (by (try simp only [List.map_toArray, List.map_cons, List.map_nil]); first | done | rfl | (simp only [List.length_drop, List.length_take]; rfl)) ?_
 with_reducible refine (slices_Clone_int_int.calls _ _ l0_1 t202 _ ?side1 ?side2 A3.out).mono ?_
 (case side1 => exact xd ((Kd.C_below HR0_1.out HB.out)))
 (case side2 => exact HC0_1.out)
 rintro e w8 ⟨v203, rfl, ho0, hb⟩
 refine ⟨_, rfl, ?_⟩
 have HO204 := Aside0.mk (Kd.R_lower (Kd.R_new' ho0 (Kd.R_lt (xr HO201.out))) (below_size (xs HB.out)))
 replace HO201 := Aside0.mk (Kd.R_elder' (xr HO201.out) (Kd.R_base ho0) hb)
 replace BK197 := xk BK197 hb
 replace BK198 := xk BK198 hb
 replace HB := xp HB hb
 (try clear hb)
 (try clear hb2)
 (try clear hk)
 (try clear hi)
 (try clear ho0)
 obtain ⟨Ao9, co9, eo9⟩ := Kd.R_slice HO204.out
 (first | subst eo9 | (injection eo9 with f1_ f2_ f3_; have f4_ := f1_.symm; have f5_ := f3_.symm; clear f1_ f2_ f3_; subst f4_; subst f5_))
 obtain ⟨Ao10, co10, eo10⟩ := Kd.R_slice HO201.out
 (first | subst eo10 | (injection eo10 with f1_ f2_ f3_; have f4_ := f1_.symm; have f5_ := f3_.symm; clear f1_ f2_ f3_; subst f4_; subst f5_))
 refine hK.out _ _ ⟨(blk_cell BK197.out 0).trans rfl, (blk_cell BK197.out 1).trans rfl⟩ (fun hHeld => ?_)
 clear hK K
 refine norm_ (a' := ?_) ?_ ?_
 rotate_left
 ·show Act.put _ (some 8) _ = _
  simp only [Act.put, List.setIfInBounds_toArray, List.set_cons_zero, List.set_cons_succ, i64_w, i32_w]
  rfl
 refine pure_ (i := 6) (N := some 9) (v := ?_) (a' := ?_) #[true, true, true, true, true, true, true, false] rfl rfl (any_of HT_.out (by kernel_rfl)) (fun _ _ _ h => h) (Or.inl ⟨by rfl, ?_⟩) ?_ ?_
 rotate_left
 ·intro w'
  go_simp
  with_reducible rfl
 rotate_left
 ·simp only [Act.put, List.setIfInBounds_toArray, List.set_cons_zero, List.set_cons_succ, i64_w, i32_w]
  rfl
 refine one_ (i := 7) (N := none) #[true, true, true, true, true, true, true, true] rfl rfl (one_of HT_.out (by kernel_rfl)) (by decide) (fun K hK => ?_)
 have hs11 : w8.cell? ⟨gb198, 0, none⟩ = some (.slice none 0 0) := (blk_cell BK198.out 0).trans rfl
 have hfs11 := blk_frozen BK198.out 0
 have hns11_0 := NB197_198.out
 have hms11_0 := NB198_197.out
 have hs12 : w8.cell? ⟨gb198, 1, none⟩ = some (.slice none 0 0) := (blk_cell BK198.out 1).trans rfl
 have hfs12 := blk_frozen BK198.out 1
 have hns12_0 := NB197_198.out
 have hms12_0 := NB198_197.out
 refine skip_ (w1 := ?_) (by rfl) rfl ?_ ?_
 rotate_left
 ·go_simp
  rfl
 refine hK.out _ _ ⟨((cell_far (p := ⟨gb198, _, none⟩) NB197_198.out _).trans (((cell_far (p := ⟨gb198, _, none⟩) NB197_198.out _).trans (hHeld.1)))), ((cell_far (p := ⟨gb198, _, none⟩) NB197_198.out _).trans (((cell_far (p := ⟨gb198, _, none⟩) NB197_198.out _).trans (hHeld.2))))⟩ (fun hHeld => ?_)
 clear hK K
 refine done_ (done_of HT_.out (by kernel_rfl)) ?_
 try go_wp2
 refine bodyPost_ret (results_cell_row rfl _ _ gb198 26 #[.slice Ao10 t199.length co10, .slice Ao9 t202.length co9] (0, 0) _ rfl (by (with_reducible repeat (first | refine blk_drewN ?_ _ | refine blk_drew ?_ | refine blk_alloc ?_ _)); refine blk_put (cs := #[.slice Ao10 t199.length co10, .slice none 0 0]) ?_ 1 _ rfl; (with_reducible repeat (first | refine blk_drewN ?_ _ | refine blk_drew ?_ | refine blk_alloc ?_ _)); refine blk_put (cs := #[.slice none 0 0, .slice none 0 0]) ?_ 0 _ rfl; (with_reducible repeat (first | refine blk_drewN ?_ _ | refine blk_drew ?_ | refine blk_alloc ?_ _)); exact BK198.out) Try.underlying26 rfl (by kernel_rfl)) rfl ?_
 exact ⟨_, _, by first | rfl | (simp [errW_none, errW_some] <;> rfl) | (simp [*, errW_none, errW_some] <;> rfl), by (with_reducible repeat (first | apply Kd.R_alloc | apply Kd.R_drewN | apply Kd.R_drew)); exact Kd.R_mono (Kd.R_far (p := ⟨gb198, 1, none⟩) (Kd.R_far (p := ⟨gb198, 0, none⟩) (Kd.R_types HO201.out BK198.out (by decide)) (fun _ hk => hk.2) (.slice Ao10 t199.length co10)) (fun _ hk => hk.2) (.slice Ao9 t202.length co9)) (fun _ hk => hk.1.2), by (with_reducible repeat (first | apply Kd.R_alloc | apply Kd.R_drewN | apply Kd.R_drew)); exact Kd.R_mono (Kd.R_far (p := ⟨gb198, 1, none⟩) (Kd.R_far (p := ⟨gb198, 0, none⟩) (Kd.R_types HO204.out BK198.out (by decide)) (fun _ hk => hk.2) (.slice Ao10 t199.length co10)) (fun _ hk => hk.2) (.slice Ao9 t202.length co9)) (fun _ hk => hk.1.2), by repeat (first | (with_reducible first | exact HB.out | apply below_alloc | apply pw_below_drewN | apply below_drew1 | refine below_set ?_ GE197.out | refine below_set ?_ GE198.out) | exact HB.out)⟩

/-! ### impl_Vessels_room: function 106 -/
def impl_Vessels_room.f (l0_0 : List Int) (l0_1 : List Int) (a1 : Int) : Option (Int) := if 0 ≤ a1 then (if a1 < (l0_0.length : Int) then (if a1 < (l0_1.length : Int) then (some (wrap64 ((rd l0_0 a1) - (rd l0_1 a1)))) else (none)) else (none)) else (none)
set_option maxHeartbeats 8000000 in
set_option maxRecDepth 100000 in
theorem impl_Vessels_room.calls (A0_0 : Option Addr) (c0_0 : Nat) (l0_0 : List Int) (A0_1 : Option Addr) (c0_1 : Nat) (l0_1 : List Int) (a1 : Int) (r : Int) (w : World) (hr0_0 : Kd.C (Kd.int .i64) w A0_0 l0_0.length l0_0) (hc0_0 : l0_0.length ≤ c0_0) (hr0_1 : Kd.C (Kd.int .i64) w A0_1 l0_1.length l0_1) (hc0_1 : l0_1.length ≤ c0_1) (h : impl_Vessels_room.f l0_0 l0_1 a1 = some r) :
  Calls Try.prog 106 #[.agg #[.slice A0_0 l0_0.length c0_0, .slice A0_1 l0_1.length c0_1], .int .i64 a1] w fun e w' => e = .returned (.int .i64 r) ∧ Below w.heap.size w w' := by
 have hu26 := Try.underlying26
 have HR0_0 := Aside0.mk hr0_0
 have HC0_0 := Aside0.mk hc0_0
 clear hr0_0 hc0_0
 have HR0_1 := Aside0.mk hr0_1
 have HC0_1 := Aside0.mk hc0_1
 clear hr0_1 hc0_1
 have HB := Aside0.mk (Below.refl w.heap.size w)
 have H : (if 0 ≤ a1 then (if a1 < (l0_0.length : Int) then (if a1 < (l0_1.length : Int) then (some (wrap64 ((rd l0_0 a1) - (rd l0_1 a1)))) else (none)) else (none)) else (none)) = some r := h
 clear h
 by_cases c3 : 0 ≤ a1
 ·rw [if_pos c3] at H
  have c3b0 : decide (0 ≤ a1) = true := decide_eq_true c3
  clear c3
  by_cases c4 : a1 < (l0_0.length : Int)
  ·rw [if_pos c4] at H
   have c4b0 : decide (a1 < (l0_0.length : Int)) = true := decide_eq_true c4
   clear c4
   by_cases c5 : a1 < (l0_1.length : Int)
   ·rw [if_pos c5] at H
    have c5b0 : decide (a1 < (l0_1.length : Int)) = true := decide_eq_true c5
    clear c5
    obtain rfl := Option.some.inj H
    go_enter Try.func106, Try.ntmps106
    go_wp2_with (first | ((with_reducible refine gate_dst (N := 2) rfl ?_); refine box_event ?hg (N := 2) ?hd (cs := #[.slice A0_0 l0_0.length c0_0, .slice A0_1 l0_1.length c0_1]) (t := 26) ?hr ?_; (case hd => rfl); (case hg => rfl); (case hr => first | (go_simp; done) | (go_simp; rfl)); intro gb205 hg w6 hbox hb; have BK205 := Aside0.mk (hbox); have GW205 := xg HB hg; have GE205 := xg HB hg; replace HB := xp HB hb; clear hb hbox hg; have hcz7_0 : w6.cell? ⟨gb205, 0, none⟩ = some (.slice A0_0 l0_0.length c0_0) := (blk_cell BK205.out 0).trans rfl; have hcz7_1 : w6.cell? ⟨gb205, 1, none⟩ = some (.slice A0_1 l0_1.length c0_1) := (blk_cell BK205.out 1).trans rfl; have hfz7_0 := blk_frozen BK205.out 0; have hfz7_1 := blk_frozen BK205.out 1; have p206 : 0 ≤ (a1 : Int) := of_decide_eq_true (by first | (with_reducible assumption) | assumption); have q206 : a1 < (l0_0.length : Int) := of_decide_eq_true (by first | (with_reducible assumption) | assumption); obtain ⟨ad206, e206, hx206_0⟩ := Kd.at_int HR0_0.out a1 p206 q206; cases e206; replace hx206_0 := (HB.out.cell (World.block_lt_of_cell? w _ hx206_0)).trans hx206_0; replace p206 := eq_true p206; replace q206 := eq_true q206; have p207 : 0 ≤ (a1 : Int) := of_decide_eq_true (by first | (with_reducible assumption) | assumption); have q207 : a1 < (l0_1.length : Int) := of_decide_eq_true (by first | (with_reducible assumption) | assumption); obtain ⟨ad207, e207, hx207_0⟩ := Kd.at_int HR0_1.out a1 p207 q207; cases e207; replace hx207_0 := (HB.out.cell (World.block_lt_of_cell? w _ hx207_0)).trans hx207_0; replace p207 := eq_true p207; replace q207 := eq_true q207))
    repeat (go_quiet (first | ((with_reducible refine gate_dst (N := 2) rfl ?_); refine box_event ?hg (N := 2) ?hd (cs := #[.slice A0_0 l0_0.length c0_0, .slice A0_1 l0_1.length c0_1]) (t := 26) ?hr ?_; (case hd => rfl); (case hg => rfl); (case hr => first | (go_simp; done) | (go_simp; rfl)); intro gb205 hg w6 hbox hb; have BK205 := Aside0.mk (hbox); have GW205 := xg HB hg; have GE205 := xg HB hg; replace HB := xp HB hb; clear hb hbox hg; have hcz7_0 : w6.cell? ⟨gb205, 0, none⟩ = some (.slice A0_0 l0_0.length c0_0) := (blk_cell BK205.out 0).trans rfl; have hcz7_1 : w6.cell? ⟨gb205, 1, none⟩ = some (.slice A0_1 l0_1.length c0_1) := (blk_cell BK205.out 1).trans rfl; have hfz7_0 := blk_frozen BK205.out 0; have hfz7_1 := blk_frozen BK205.out 1; have p206 : 0 ≤ (a1 : Int) := of_decide_eq_true (by first | (with_reducible assumption) | assumption); have q206 : a1 < (l0_0.length : Int) := of_decide_eq_true (by first | (with_reducible assumption) | assumption); obtain ⟨ad206, e206, hx206_0⟩ := Kd.at_int HR0_0.out a1 p206 q206; cases e206; replace hx206_0 := (HB.out.cell (World.block_lt_of_cell? w _ hx206_0)).trans hx206_0; replace p206 := eq_true p206; replace q206 := eq_true q206; have p207 : 0 ≤ (a1 : Int) := of_decide_eq_true (by first | (with_reducible assumption) | assumption); have q207 : a1 < (l0_1.length : Int) := of_decide_eq_true (by first | (with_reducible assumption) | assumption); obtain ⟨ad207, e207, hx207_0⟩ := Kd.at_int HR0_1.out a1 p207 q207; cases e207; replace hx207_0 := (HB.out.cell (World.block_lt_of_cell? w _ hx207_0)).trans hx207_0; replace p207 := eq_true p207; replace q207 := eq_true q207)); try go_wp2_with (first | ((with_reducible refine gate_dst (N := 2) rfl ?_); refine box_event ?hg (N := 2) ?hd (cs := #[.slice A0_0 l0_0.length c0_0, .slice A0_1 l0_1.length c0_1]) (t := 26) ?hr ?_; (case hd => rfl); (case hg => rfl); (case hr => first | (go_simp; done) | (go_simp; rfl)); intro gb205 hg w6 hbox hb; have BK205 := Aside0.mk (hbox); have GW205 := xg HB hg; have GE205 := xg HB hg; replace HB := xp HB hb; clear hb hbox hg; have hcz7_0 : w6.cell? ⟨gb205, 0, none⟩ = some (.slice A0_0 l0_0.length c0_0) := (blk_cell BK205.out 0).trans rfl; have hcz7_1 : w6.cell? ⟨gb205, 1, none⟩ = some (.slice A0_1 l0_1.length c0_1) := (blk_cell BK205.out 1).trans rfl; have hfz7_0 := blk_frozen BK205.out 0; have hfz7_1 := blk_frozen BK205.out 1; have p206 : 0 ≤ (a1 : Int) := of_decide_eq_true (by first | (with_reducible assumption) | assumption); have q206 : a1 < (l0_0.length : Int) := of_decide_eq_true (by first | (with_reducible assumption) | assumption); obtain ⟨ad206, e206, hx206_0⟩ := Kd.at_int HR0_0.out a1 p206 q206; cases e206; replace hx206_0 := (HB.out.cell (World.block_lt_of_cell? w _ hx206_0)).trans hx206_0; replace p206 := eq_true p206; replace q206 := eq_true q206; have p207 : 0 ≤ (a1 : Int) := of_decide_eq_true (by first | (with_reducible assumption) | assumption); have q207 : a1 < (l0_1.length : Int) := of_decide_eq_true (by first | (with_reducible assumption) | assumption); obtain ⟨ad207, e207, hx207_0⟩ := Kd.at_int HR0_1.out a1 p207 q207; cases e207; replace hx207_0 := (HB.out.cell (World.block_lt_of_cell? w _ hx207_0)).trans hx207_0; replace p207 := eq_true p207; replace q207 := eq_true q207)))
    go_ret
    exact ⟨by first | rfl | (simp [errW_none, errW_some] <;> rfl) | (simp [*, errW_none, errW_some] <;> rfl), by repeat (first | (with_reducible first | exact HB.out | apply below_alloc | apply pw_below_drewN | apply below_drew1 | refine below_set ?_ GE205.out) | exact HB.out)⟩
   ·rw [if_neg c5] at H
    exact absurd H (by simp)
  ·rw [if_neg c4] at H
   exact absurd H (by simp)
 ·rw [if_neg c3] at H
  exact absurd H (by simp)

end Go.Proofs.Ytobkbpoamicjgaa.PFnExactTakenIn

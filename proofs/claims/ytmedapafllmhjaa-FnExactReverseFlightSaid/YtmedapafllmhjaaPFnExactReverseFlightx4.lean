/- Lean functions of the Go functions that the law FnExactReverseFlight reaches, and the proofs that the calls come to what they say (made by program). -/
import Derived.Test.YtmedapafllmhjaaAb
import Derived.Test.YtmedapafllmhjaaPFnExactReverseFlightx0
import Derived.Test.YtmedapafllmhjaaPFnExactReverseFlightx3
namespace Go.Proofs.Ytmedapafllmhjaa.PFnExactReverseFlight
open Go.RowKit Go.Proofs.YtmedapafllmhjaaW.PrintWords Go.Proofs.YtmedapafllmhjaaW.PrintLast Go.Proofs.YtmedapafllmhjaaW.PrintMore Go.Proofs.Ytmedapafllmhjaa.Ab
attribute [local go_sem] max2_int min2_int max_two min_two max_three min_three max_four min_four   -- for this text's walks alone
set_option linter.unusedVariables false
set_option linter.unusedSimpArgs false

/-! ### impl_ReverseFlight: function 18 -/
theorem apart_new {α β : Type} {d : Kd α} {d2 : Kd β} {e e2 : Nat} {W W2 : World} {b : Nat} {ok ok2 : Nat → Prop} {u v : Value} {xs : List α} {ys : List β} (h : Kd.R d e W b ok u xs) (h2 : Kd.R d2 e2 W2 W.heap.size ok2 v ys) : ∀ k, u.ownBlock = some k → v.ownBlock ≠ some k := by
 intro k hk hv
 have h1 := (Kd.R_bound h).1 k hk
 have h3 := Kd.R_base h2 k hv
 omega
theorem passage_op6 : (opsOf Try.f40 1)[6]? = some { dst := some 9, op := Op.build 29 #[(0, Operand.tmp 5), (1, Operand.tmp 8)], type := 29, pos := "l8_lock.go:45", after := #[{ on := 2, ground := Ground.data }, { on := 5, ground := Ground.data }], guard := none } := by kernel_rfl
set_option maxHeartbeats 4000000 in
set_option maxRecDepth 100000 in
theorem passage_region (A0_0 : Option Addr) (c0_0 : Nat) (l0_0 : List Int) (A0_1 : Option Addr) (c0_1 : Nat) (l0_1 : List Bool) (gb : Nat) (w : World) (Q : Exit → Act → World → Prop) (hQ : ∀ c a d v W, Q (.panic c) (a.put d v) W → Q (.panic c) a W) (hr0 : Kd.C (Kd.int .i64) w A0_0 l0_0.length l0_0) (hc0 : l0_0.length ≤ c0_0) (hr1 : Kd.C Kd.bool w A0_1 l0_1.length l0_1) (hc1 : l0_1.length ≤ c0_1) (hl0 : l0_0.length ≤ 1000) (hl1 : l0_1.length ≤ 1000)
  (h_2_5_11_15 : ∀ (v5 v8 v14 v18 : Value) (W : World), Go.RowKit.Below w.heap.size w W → W.heap[gb]? = some (.cells #[.slice A0_0 l0_0.length c0_0, .slice A0_1 l0_1.length c0_1] 29 (0, 0)) → Kd.R (Kd.int .i64) 3 W w.heap.size (fun _ => True) v5 l0_0 → Kd.R Kd.bool 4 W w.heap.size (fun _ => True) v8 l0_1 → Kd.R (Kd.int .i64) 3 W w.heap.size (fun _ => True) v14 (List.replicate (l0_0.length + 1) (0 : Int)) → Kd.R (Kd.int .i64) 3 W w.heap.size (fun _ => True) v18 (List.replicate l0_0.length (0 : Int)) → (∀ k, v5.ownBlock = some k → v14.ownBlock ≠ some k) → (∀ k, v5.ownBlock = some k → v18.ownBlock ≠ some k) → (∀ k, v14.ownBlock = some k → v18.ownBlock ≠ some k) → wpAnyLast Try.prog .any (opsOf Try.f40 1) Q (fun w' : World => w'.cell? ⟨gb, 0, none⟩ = some (.slice A0_0 l0_0.length c0_0) ∧ w'.cell? ⟨gb, 1, none⟩ = some (.slice A0_1 l0_1.length c0_1)) [] 3 #[true, true, true, true, true, true, true, true, true, true, true, true, true, true, true, true, false, false, false] { tmps := #[.agg #[.slice A0_0 l0_0.length c0_0, .slice A0_1 l0_1.length c0_1], .pointer (some ⟨gb, 0, none⟩), .pointer none, .pointer (some ⟨gb, 0, none⟩), .slice A0_0 l0_0.length c0_0, v5, .pointer (some ⟨gb, 1, none⟩), .slice A0_1 l0_1.length c0_1, v8, .agg #[v5, v8], .pointer (some ⟨gb, 0, none⟩), .slice A0_0 l0_0.length c0_0, .int .i64 (l0_0.length : Int), .int .i64 ((l0_0.length : Int) + 1), v14, .pointer (some ⟨gb, 0, none⟩), .slice A0_0 l0_0.length c0_0, .int .i64 (l0_0.length : Int), v18, undef, undef], defers := [] } W)
  (W : World) (HB : Go.RowKit.Below w.heap.size w W) (BK : W.heap[gb]? = some (.cells #[.slice A0_0 l0_0.length c0_0, .slice A0_1 l0_1.length c0_1] 29 (0, 0))) : wpAnyLast Try.prog .any (opsOf Try.f40 1) Q (fun w' : World => w'.cell? ⟨gb, 0, none⟩ = some (.slice A0_0 l0_0.length c0_0) ∧ w'.cell? ⟨gb, 1, none⟩ = some (.slice A0_1 l0_1.length c0_1)) [] 8 #[true, true, false, true, true, false, false, true, true, true, true, false, true, true, true, false, false, false, false] { tmps := #[.agg #[.slice A0_0 l0_0.length c0_0, .slice A0_1 l0_1.length c0_1], .pointer (some ⟨gb, 0, none⟩), .pointer none, .pointer (some ⟨gb, 0, none⟩), .slice A0_0 l0_0.length c0_0, undef, .pointer (some ⟨gb, 1, none⟩), .slice A0_1 l0_1.length c0_1, undef, undef, .pointer (some ⟨gb, 0, none⟩), .slice A0_0 l0_0.length c0_0, .int .i64 (l0_0.length : Int), .int .i64 ((l0_0.length : Int) + 1), undef, .pointer (some ⟨gb, 0, none⟩), .slice A0_0 l0_0.length c0_0, .int .i64 (l0_0.length : Int), undef, undef, undef], defers := [] } W := by
 have h_2_5_11 : ∀ (v5 v8 v14 : Value) (W : World), Go.RowKit.Below w.heap.size w W → W.heap[gb]? = some (.cells #[.slice A0_0 l0_0.length c0_0, .slice A0_1 l0_1.length c0_1] 29 (0, 0)) → Kd.R (Kd.int .i64) 3 W w.heap.size (fun _ => True) v5 l0_0 → Kd.R Kd.bool 4 W w.heap.size (fun _ => True) v8 l0_1 → Kd.R (Kd.int .i64) 3 W w.heap.size (fun _ => True) v14 (List.replicate (l0_0.length + 1) (0 : Int)) → (∀ k, v5.ownBlock = some k → v14.ownBlock ≠ some k) → wpAnyLast Try.prog .any (opsOf Try.f40 1) Q (fun w' : World => w'.cell? ⟨gb, 0, none⟩ = some (.slice A0_0 l0_0.length c0_0) ∧ w'.cell? ⟨gb, 1, none⟩ = some (.slice A0_1 l0_1.length c0_1)) [] 4 #[true, true, true, true, true, true, true, true, true, true, true, true, true, true, true, false, false, false, false] { tmps := #[.agg #[.slice A0_0 l0_0.length c0_0, .slice A0_1 l0_1.length c0_1], .pointer (some ⟨gb, 0, none⟩), .pointer none, .pointer (some ⟨gb, 0, none⟩), .slice A0_0 l0_0.length c0_0, v5, .pointer (some ⟨gb, 1, none⟩), .slice A0_1 l0_1.length c0_1, v8, .agg #[v5, v8], .pointer (some ⟨gb, 0, none⟩), .slice A0_0 l0_0.length c0_0, .int .i64 (l0_0.length : Int), .int .i64 ((l0_0.length : Int) + 1), v14, .pointer (some ⟨gb, 0, none⟩), .slice A0_0 l0_0.length c0_0, .int .i64 (l0_0.length : Int), undef, undef, undef], defers := [] } W := by
  intro v5 v8 v14 W HB BK O5 O8 O14 N5_14
  refine wpAnyLast_ready (rs := [15]) (by kernel_rfl) (by simp) (AllReadyL.cons (i := 15) rfl (by decide) (fun K hK => ?a15) AllReadyL.nil)
  case a15 =>
   refine Kd.R_make_step (Kd.int .i64) (w0 := W) W.heap.size 3 rfl (N := 18) rfl 22 _ _ rfl (l0_0.length : Int) rfl rfl Try.underlying22 (.int .i64 0) 8 info3 rfl (by decide) (by omega) (0 : Int) (ok := fun _ => True) (okp := fun _ => True) rfl (fun _ hk => hk) trivial (by omega) (by omega) (Go.RowKit.Below.refl _ _) (Nat.le_refl _) ?_
   intro v18 W2 ho hb hg_ hn_
   rw [Int.toNat_natCast] at ho
   have BK2 := blk_below BK hb
   refine hK.out _ _ ⟨(blk_cell BK2 0).trans rfl, (blk_cell BK2 1).trans rfl⟩ (fun _ => ?_)
   refine norm_ (a' := { tmps := #[.agg #[.slice A0_0 l0_0.length c0_0, .slice A0_1 l0_1.length c0_1], .pointer (some ⟨gb, 0, none⟩), .pointer none, .pointer (some ⟨gb, 0, none⟩), .slice A0_0 l0_0.length c0_0, v5, .pointer (some ⟨gb, 1, none⟩), .slice A0_1 l0_1.length c0_1, v8, .agg #[v5, v8], .pointer (some ⟨gb, 0, none⟩), .slice A0_0 l0_0.length c0_0, .int .i64 (l0_0.length : Int), .int .i64 ((l0_0.length : Int) + 1), v14, .pointer (some ⟨gb, 0, none⟩), .slice A0_0 l0_0.length c0_0, .int .i64 (l0_0.length : Int), v18, undef, undef], defers := [] }) (by show Act.put _ (some 18) _ = _; simp only [Act.put, List.setIfInBounds_toArray, List.set_cons_zero, List.set_cons_succ]) ?_
   (try simp only [List.setIfInBounds_toArray, List.set_cons_zero, List.set_cons_succ])
   exact h_2_5_11_15 v5 v8 v14 v18 W2 (below_then HB HB.size hb) BK2 (Kd.R_below O5 hb) (Kd.R_below O8 hb) (Kd.R_below O14 hb) (Kd.R_lower ho HB.size) N5_14 (apart_new O5 ho) (apart_new O14 ho)
 have h_2_5_15 : ∀ (v5 v8 v18 : Value) (W : World), Go.RowKit.Below w.heap.size w W → W.heap[gb]? = some (.cells #[.slice A0_0 l0_0.length c0_0, .slice A0_1 l0_1.length c0_1] 29 (0, 0)) → Kd.R (Kd.int .i64) 3 W w.heap.size (fun _ => True) v5 l0_0 → Kd.R Kd.bool 4 W w.heap.size (fun _ => True) v8 l0_1 → Kd.R (Kd.int .i64) 3 W w.heap.size (fun _ => True) v18 (List.replicate l0_0.length (0 : Int)) → (∀ k, v5.ownBlock = some k → v18.ownBlock ≠ some k) → wpAnyLast Try.prog .any (opsOf Try.f40 1) Q (fun w' : World => w'.cell? ⟨gb, 0, none⟩ = some (.slice A0_0 l0_0.length c0_0) ∧ w'.cell? ⟨gb, 1, none⟩ = some (.slice A0_1 l0_1.length c0_1)) [] 4 #[true, true, true, true, true, true, true, true, true, true, true, false, true, true, true, true, false, false, false] { tmps := #[.agg #[.slice A0_0 l0_0.length c0_0, .slice A0_1 l0_1.length c0_1], .pointer (some ⟨gb, 0, none⟩), .pointer none, .pointer (some ⟨gb, 0, none⟩), .slice A0_0 l0_0.length c0_0, v5, .pointer (some ⟨gb, 1, none⟩), .slice A0_1 l0_1.length c0_1, v8, .agg #[v5, v8], .pointer (some ⟨gb, 0, none⟩), .slice A0_0 l0_0.length c0_0, .int .i64 (l0_0.length : Int), .int .i64 ((l0_0.length : Int) + 1), undef, .pointer (some ⟨gb, 0, none⟩), .slice A0_0 l0_0.length c0_0, .int .i64 (l0_0.length : Int), v18, undef, undef], defers := [] } W := by
  intro v5 v8 v18 W HB BK O5 O8 O18 N5_18
  refine wpAnyLast_ready (rs := [11]) (by kernel_rfl) (by simp) (AllReadyL.cons (i := 11) rfl (by decide) (fun K hK => ?a11) AllReadyL.nil)
  case a11 =>
   refine Kd.R_make_step (Kd.int .i64) (w0 := W) W.heap.size 3 rfl (N := 14) rfl 22 _ _ rfl ((l0_0.length : Int) + 1) rfl rfl Try.underlying22 (.int .i64 0) 8 info3 rfl (by decide) (by omega) (0 : Int) (ok := fun _ => True) (okp := fun _ => True) rfl (fun _ hk => hk) trivial (by omega) (by omega) (Go.RowKit.Below.refl _ _) (Nat.le_refl _) ?_
   intro v14 W2 ho hb hg_ hn_
   rw [show ((l0_0.length : Int) + 1).toNat = l0_0.length + 1 by omega] at ho
   have BK2 := blk_below BK hb
   refine hK.out _ _ ⟨(blk_cell BK2 0).trans rfl, (blk_cell BK2 1).trans rfl⟩ (fun _ => ?_)
   refine norm_ (a' := { tmps := #[.agg #[.slice A0_0 l0_0.length c0_0, .slice A0_1 l0_1.length c0_1], .pointer (some ⟨gb, 0, none⟩), .pointer none, .pointer (some ⟨gb, 0, none⟩), .slice A0_0 l0_0.length c0_0, v5, .pointer (some ⟨gb, 1, none⟩), .slice A0_1 l0_1.length c0_1, v8, .agg #[v5, v8], .pointer (some ⟨gb, 0, none⟩), .slice A0_0 l0_0.length c0_0, .int .i64 (l0_0.length : Int), .int .i64 ((l0_0.length : Int) + 1), v14, .pointer (some ⟨gb, 0, none⟩), .slice A0_0 l0_0.length c0_0, .int .i64 (l0_0.length : Int), v18, undef, undef], defers := [] }) (by show Act.put _ (some 14) _ = _; simp only [Act.put, List.setIfInBounds_toArray, List.set_cons_zero, List.set_cons_succ]) ?_
   (try simp only [List.setIfInBounds_toArray, List.set_cons_zero, List.set_cons_succ])
   exact h_2_5_11_15 v5 v8 v14 v18 W2 (below_then HB HB.size hb) BK2 (Kd.R_below O5 hb) (Kd.R_below O8 hb) (Kd.R_lower ho HB.size) (Kd.R_below O18 hb) (apart_new O5 ho) N5_18 (fun k h1 h2 => apart_new O18 ho k h2 h1)
 have h_2_11_15 : ∀ (v5 v14 v18 : Value) (W : World), Go.RowKit.Below w.heap.size w W → W.heap[gb]? = some (.cells #[.slice A0_0 l0_0.length c0_0, .slice A0_1 l0_1.length c0_1] 29 (0, 0)) → Kd.R (Kd.int .i64) 3 W w.heap.size (fun _ => True) v5 l0_0 → Kd.R (Kd.int .i64) 3 W w.heap.size (fun _ => True) v14 (List.replicate (l0_0.length + 1) (0 : Int)) → Kd.R (Kd.int .i64) 3 W w.heap.size (fun _ => True) v18 (List.replicate l0_0.length (0 : Int)) → (∀ k, v5.ownBlock = some k → v14.ownBlock ≠ some k) → (∀ k, v5.ownBlock = some k → v18.ownBlock ≠ some k) → (∀ k, v14.ownBlock = some k → v18.ownBlock ≠ some k) → wpAnyLast Try.prog .any (opsOf Try.f40 1) Q (fun w' : World => w'.cell? ⟨gb, 0, none⟩ = some (.slice A0_0 l0_0.length c0_0) ∧ w'.cell? ⟨gb, 1, none⟩ = some (.slice A0_1 l0_1.length c0_1)) [] 5 #[true, true, true, true, true, false, false, true, true, true, true, true, true, true, true, true, false, false, false] { tmps := #[.agg #[.slice A0_0 l0_0.length c0_0, .slice A0_1 l0_1.length c0_1], .pointer (some ⟨gb, 0, none⟩), .pointer none, .pointer (some ⟨gb, 0, none⟩), .slice A0_0 l0_0.length c0_0, v5, .pointer (some ⟨gb, 1, none⟩), .slice A0_1 l0_1.length c0_1, undef, undef, .pointer (some ⟨gb, 0, none⟩), .slice A0_0 l0_0.length c0_0, .int .i64 (l0_0.length : Int), .int .i64 ((l0_0.length : Int) + 1), v14, .pointer (some ⟨gb, 0, none⟩), .slice A0_0 l0_0.length c0_0, .int .i64 (l0_0.length : Int), v18, undef, undef], defers := [] } W := by
  intro v5 v14 v18 W HB BK O5 O14 O18 N5_14 N5_18 N14_18
  refine wpAnyLast_ready (rs := [5]) (by kernel_rfl) (by simp) (AllReadyL.cons (i := 5) rfl (by decide) (fun K hK => ?a5) AllReadyL.nil)
  case a5 =>
   refine goes_ Try.func63 (by kernel_rfl) rfl #[.slice A0_1 l0_1.length c0_1] (by rfl) rfl rfl (by (try simp only [List.map_toArray, List.map_cons, List.map_nil]); first | done | rfl) ?_
   refine (slices_Clone_bool_bool.calls _ _ l0_1 l0_1 W (Kd.C_below hr1 HB) (by assumption) (by unfold slices_Clone_bool_bool.f; rw [if_pos (by omega)])).mono ?_
   rintro e W2 ⟨v8, rfl, ho, hb⟩
   refine ⟨_, rfl, ?_⟩
   have BK2 := blk_below BK hb
   refine hK.out _ _ ⟨(blk_cell BK2 0).trans rfl, (blk_cell BK2 1).trans rfl⟩ (fun _ => ?_)
   refine norm_ (a' := { tmps := #[.agg #[.slice A0_0 l0_0.length c0_0, .slice A0_1 l0_1.length c0_1], .pointer (some ⟨gb, 0, none⟩), .pointer none, .pointer (some ⟨gb, 0, none⟩), .slice A0_0 l0_0.length c0_0, v5, .pointer (some ⟨gb, 1, none⟩), .slice A0_1 l0_1.length c0_1, v8, undef, .pointer (some ⟨gb, 0, none⟩), .slice A0_0 l0_0.length c0_0, .int .i64 (l0_0.length : Int), .int .i64 ((l0_0.length : Int) + 1), v14, .pointer (some ⟨gb, 0, none⟩), .slice A0_0 l0_0.length c0_0, .int .i64 (l0_0.length : Int), v18, undef, undef], defers := [] }) (by show Act.put _ (some 8) _ = _; simp only [Act.put, List.setIfInBounds_toArray, List.set_cons_zero, List.set_cons_succ]) ?_
   (try simp only [List.setIfInBounds_toArray, List.set_cons_zero, List.set_cons_succ])
   refine pure_ (i := 6) (N := some 9) (v := .agg #[v5, v8]) (a' := { tmps := #[.agg #[.slice A0_0 l0_0.length c0_0, .slice A0_1 l0_1.length c0_1], .pointer (some ⟨gb, 0, none⟩), .pointer none, .pointer (some ⟨gb, 0, none⟩), .slice A0_0 l0_0.length c0_0, v5, .pointer (some ⟨gb, 1, none⟩), .slice A0_1 l0_1.length c0_1, v8, .agg #[v5, v8], .pointer (some ⟨gb, 0, none⟩), .slice A0_0 l0_0.length c0_0, .int .i64 (l0_0.length : Int), .int .i64 ((l0_0.length : Int) + 1), v14, .pointer (some ⟨gb, 0, none⟩), .slice A0_0 l0_0.length c0_0, .int .i64 (l0_0.length : Int), v18, undef, undef], defers := [] }) #[true, true, true, true, true, true, true, true, true, true, true, true, true, true, true, true, false, false, false] passage_op6 rfl (by kernel_rfl) (fun _ _ _ h => hQ _ _ _ _ _ h) (Or.inl ⟨by rfl, ?_⟩) (by simp only [Act.put, List.setIfInBounds_toArray, List.set_cons_zero, List.set_cons_succ]) ?_
   ·intro w'
    obtain ⟨Ao5, co5, eo5⟩ := Kd.R_slice O5
    obtain ⟨Ao8, co8, eo8⟩ := Kd.R_slice ho
    rw [eo5, eo8]
    go_simp
    first | done | rfl
   exact h_2_5_11_15 v5 v8 v14 v18 W2 (below_then HB HB.size hb) BK2 (Kd.R_below O5 hb) (Kd.R_lower ho HB.size) (Kd.R_below O14 hb) (Kd.R_below O18 hb) N5_14 N5_18 N14_18
 have h_2_5 : ∀ (v5 v8 : Value) (W : World), Go.RowKit.Below w.heap.size w W → W.heap[gb]? = some (.cells #[.slice A0_0 l0_0.length c0_0, .slice A0_1 l0_1.length c0_1] 29 (0, 0)) → Kd.R (Kd.int .i64) 3 W w.heap.size (fun _ => True) v5 l0_0 → Kd.R Kd.bool 4 W w.heap.size (fun _ => True) v8 l0_1 → wpAnyLast Try.prog .any (opsOf Try.f40 1) Q (fun w' : World => w'.cell? ⟨gb, 0, none⟩ = some (.slice A0_0 l0_0.length c0_0) ∧ w'.cell? ⟨gb, 1, none⟩ = some (.slice A0_1 l0_1.length c0_1)) [] 5 #[true, true, true, true, true, true, true, true, true, true, true, false, true, true, true, false, false, false, false] { tmps := #[.agg #[.slice A0_0 l0_0.length c0_0, .slice A0_1 l0_1.length c0_1], .pointer (some ⟨gb, 0, none⟩), .pointer none, .pointer (some ⟨gb, 0, none⟩), .slice A0_0 l0_0.length c0_0, v5, .pointer (some ⟨gb, 1, none⟩), .slice A0_1 l0_1.length c0_1, v8, .agg #[v5, v8], .pointer (some ⟨gb, 0, none⟩), .slice A0_0 l0_0.length c0_0, .int .i64 (l0_0.length : Int), .int .i64 ((l0_0.length : Int) + 1), undef, .pointer (some ⟨gb, 0, none⟩), .slice A0_0 l0_0.length c0_0, .int .i64 (l0_0.length : Int), undef, undef, undef], defers := [] } W := by
  intro v5 v8 W HB BK O5 O8
  refine wpAnyLast_ready (rs := [11, 15]) (by kernel_rfl) (by simp) (AllReadyL.cons (i := 11) rfl (by decide) (fun K hK => ?a11) (AllReadyL.cons (i := 15) rfl (by decide) (fun K hK => ?a15) AllReadyL.nil))
  case a11 =>
   refine Kd.R_make_step (Kd.int .i64) (w0 := W) W.heap.size 3 rfl (N := 14) rfl 22 _ _ rfl ((l0_0.length : Int) + 1) rfl rfl Try.underlying22 (.int .i64 0) 8 info3 rfl (by decide) (by omega) (0 : Int) (ok := fun _ => True) (okp := fun _ => True) rfl (fun _ hk => hk) trivial (by omega) (by omega) (Go.RowKit.Below.refl _ _) (Nat.le_refl _) ?_
   intro v14 W2 ho hb hg_ hn_
   rw [show ((l0_0.length : Int) + 1).toNat = l0_0.length + 1 by omega] at ho
   have BK2 := blk_below BK hb
   refine hK.out _ _ ⟨(blk_cell BK2 0).trans rfl, (blk_cell BK2 1).trans rfl⟩ (fun _ => ?_)
   refine norm_ (a' := { tmps := #[.agg #[.slice A0_0 l0_0.length c0_0, .slice A0_1 l0_1.length c0_1], .pointer (some ⟨gb, 0, none⟩), .pointer none, .pointer (some ⟨gb, 0, none⟩), .slice A0_0 l0_0.length c0_0, v5, .pointer (some ⟨gb, 1, none⟩), .slice A0_1 l0_1.length c0_1, v8, .agg #[v5, v8], .pointer (some ⟨gb, 0, none⟩), .slice A0_0 l0_0.length c0_0, .int .i64 (l0_0.length : Int), .int .i64 ((l0_0.length : Int) + 1), v14, .pointer (some ⟨gb, 0, none⟩), .slice A0_0 l0_0.length c0_0, .int .i64 (l0_0.length : Int), undef, undef, undef], defers := [] }) (by show Act.put _ (some 14) _ = _; simp only [Act.put, List.setIfInBounds_toArray, List.set_cons_zero, List.set_cons_succ]) ?_
   (try simp only [List.setIfInBounds_toArray, List.set_cons_zero, List.set_cons_succ])
   exact h_2_5_11 v5 v8 v14 W2 (below_then HB HB.size hb) BK2 (Kd.R_below O5 hb) (Kd.R_below O8 hb) (Kd.R_lower ho HB.size) (apart_new O5 ho)
  case a15 =>
   refine Kd.R_make_step (Kd.int .i64) (w0 := W) W.heap.size 3 rfl (N := 18) rfl 22 _ _ rfl (l0_0.length : Int) rfl rfl Try.underlying22 (.int .i64 0) 8 info3 rfl (by decide) (by omega) (0 : Int) (ok := fun _ => True) (okp := fun _ => True) rfl (fun _ hk => hk) trivial (by omega) (by omega) (Go.RowKit.Below.refl _ _) (Nat.le_refl _) ?_
   intro v18 W2 ho hb hg_ hn_
   rw [Int.toNat_natCast] at ho
   have BK2 := blk_below BK hb
   refine hK.out _ _ ⟨(blk_cell BK2 0).trans rfl, (blk_cell BK2 1).trans rfl⟩ (fun _ => ?_)
   refine norm_ (a' := { tmps := #[.agg #[.slice A0_0 l0_0.length c0_0, .slice A0_1 l0_1.length c0_1], .pointer (some ⟨gb, 0, none⟩), .pointer none, .pointer (some ⟨gb, 0, none⟩), .slice A0_0 l0_0.length c0_0, v5, .pointer (some ⟨gb, 1, none⟩), .slice A0_1 l0_1.length c0_1, v8, .agg #[v5, v8], .pointer (some ⟨gb, 0, none⟩), .slice A0_0 l0_0.length c0_0, .int .i64 (l0_0.length : Int), .int .i64 ((l0_0.length : Int) + 1), undef, .pointer (some ⟨gb, 0, none⟩), .slice A0_0 l0_0.length c0_0, .int .i64 (l0_0.length : Int), v18, undef, undef], defers := [] }) (by show Act.put _ (some 18) _ = _; simp only [Act.put, List.setIfInBounds_toArray, List.set_cons_zero, List.set_cons_succ]) ?_
   (try simp only [List.setIfInBounds_toArray, List.set_cons_zero, List.set_cons_succ])
   exact h_2_5_15 v5 v8 v18 W2 (below_then HB HB.size hb) BK2 (Kd.R_below O5 hb) (Kd.R_below O8 hb) (Kd.R_lower ho HB.size) (apart_new O5 ho)
 have h_2_11 : ∀ (v5 v14 : Value) (W : World), Go.RowKit.Below w.heap.size w W → W.heap[gb]? = some (.cells #[.slice A0_0 l0_0.length c0_0, .slice A0_1 l0_1.length c0_1] 29 (0, 0)) → Kd.R (Kd.int .i64) 3 W w.heap.size (fun _ => True) v5 l0_0 → Kd.R (Kd.int .i64) 3 W w.heap.size (fun _ => True) v14 (List.replicate (l0_0.length + 1) (0 : Int)) → (∀ k, v5.ownBlock = some k → v14.ownBlock ≠ some k) → wpAnyLast Try.prog .any (opsOf Try.f40 1) Q (fun w' : World => w'.cell? ⟨gb, 0, none⟩ = some (.slice A0_0 l0_0.length c0_0) ∧ w'.cell? ⟨gb, 1, none⟩ = some (.slice A0_1 l0_1.length c0_1)) [] 6 #[true, true, true, true, true, false, false, true, true, true, true, true, true, true, true, false, false, false, false] { tmps := #[.agg #[.slice A0_0 l0_0.length c0_0, .slice A0_1 l0_1.length c0_1], .pointer (some ⟨gb, 0, none⟩), .pointer none, .pointer (some ⟨gb, 0, none⟩), .slice A0_0 l0_0.length c0_0, v5, .pointer (some ⟨gb, 1, none⟩), .slice A0_1 l0_1.length c0_1, undef, undef, .pointer (some ⟨gb, 0, none⟩), .slice A0_0 l0_0.length c0_0, .int .i64 (l0_0.length : Int), .int .i64 ((l0_0.length : Int) + 1), v14, .pointer (some ⟨gb, 0, none⟩), .slice A0_0 l0_0.length c0_0, .int .i64 (l0_0.length : Int), undef, undef, undef], defers := [] } W := by
  intro v5 v14 W HB BK O5 O14 N5_14
  refine wpAnyLast_ready (rs := [5, 15]) (by kernel_rfl) (by simp) (AllReadyL.cons (i := 5) rfl (by decide) (fun K hK => ?a5) (AllReadyL.cons (i := 15) rfl (by decide) (fun K hK => ?a15) AllReadyL.nil))
  case a5 =>
   refine goes_ Try.func63 (by kernel_rfl) rfl #[.slice A0_1 l0_1.length c0_1] (by rfl) rfl rfl (by (try simp only [List.map_toArray, List.map_cons, List.map_nil]); first | done | rfl) ?_
   refine (slices_Clone_bool_bool.calls _ _ l0_1 l0_1 W (Kd.C_below hr1 HB) (by assumption) (by unfold slices_Clone_bool_bool.f; rw [if_pos (by omega)])).mono ?_
   rintro e W2 ⟨v8, rfl, ho, hb⟩
   refine ⟨_, rfl, ?_⟩
   have BK2 := blk_below BK hb
   refine hK.out _ _ ⟨(blk_cell BK2 0).trans rfl, (blk_cell BK2 1).trans rfl⟩ (fun _ => ?_)
   refine norm_ (a' := { tmps := #[.agg #[.slice A0_0 l0_0.length c0_0, .slice A0_1 l0_1.length c0_1], .pointer (some ⟨gb, 0, none⟩), .pointer none, .pointer (some ⟨gb, 0, none⟩), .slice A0_0 l0_0.length c0_0, v5, .pointer (some ⟨gb, 1, none⟩), .slice A0_1 l0_1.length c0_1, v8, undef, .pointer (some ⟨gb, 0, none⟩), .slice A0_0 l0_0.length c0_0, .int .i64 (l0_0.length : Int), .int .i64 ((l0_0.length : Int) + 1), v14, .pointer (some ⟨gb, 0, none⟩), .slice A0_0 l0_0.length c0_0, .int .i64 (l0_0.length : Int), undef, undef, undef], defers := [] }) (by show Act.put _ (some 8) _ = _; simp only [Act.put, List.setIfInBounds_toArray, List.set_cons_zero, List.set_cons_succ]) ?_
   (try simp only [List.setIfInBounds_toArray, List.set_cons_zero, List.set_cons_succ])
   refine pure_ (i := 6) (N := some 9) (v := .agg #[v5, v8]) (a' := { tmps := #[.agg #[.slice A0_0 l0_0.length c0_0, .slice A0_1 l0_1.length c0_1], .pointer (some ⟨gb, 0, none⟩), .pointer none, .pointer (some ⟨gb, 0, none⟩), .slice A0_0 l0_0.length c0_0, v5, .pointer (some ⟨gb, 1, none⟩), .slice A0_1 l0_1.length c0_1, v8, .agg #[v5, v8], .pointer (some ⟨gb, 0, none⟩), .slice A0_0 l0_0.length c0_0, .int .i64 (l0_0.length : Int), .int .i64 ((l0_0.length : Int) + 1), v14, .pointer (some ⟨gb, 0, none⟩), .slice A0_0 l0_0.length c0_0, .int .i64 (l0_0.length : Int), undef, undef, undef], defers := [] }) #[true, true, true, true, true, true, true, true, true, true, true, true, true, true, true, false, false, false, false] passage_op6 rfl (by kernel_rfl) (fun _ _ _ h => hQ _ _ _ _ _ h) (Or.inl ⟨by rfl, ?_⟩) (by simp only [Act.put, List.setIfInBounds_toArray, List.set_cons_zero, List.set_cons_succ]) ?_
   ·intro w'
    obtain ⟨Ao5, co5, eo5⟩ := Kd.R_slice O5
    obtain ⟨Ao8, co8, eo8⟩ := Kd.R_slice ho
    rw [eo5, eo8]
    go_simp
    first | done | rfl
   exact h_2_5_11 v5 v8 v14 W2 (below_then HB HB.size hb) BK2 (Kd.R_below O5 hb) (Kd.R_lower ho HB.size) (Kd.R_below O14 hb) N5_14
  case a15 =>
   refine Kd.R_make_step (Kd.int .i64) (w0 := W) W.heap.size 3 rfl (N := 18) rfl 22 _ _ rfl (l0_0.length : Int) rfl rfl Try.underlying22 (.int .i64 0) 8 info3 rfl (by decide) (by omega) (0 : Int) (ok := fun _ => True) (okp := fun _ => True) rfl (fun _ hk => hk) trivial (by omega) (by omega) (Go.RowKit.Below.refl _ _) (Nat.le_refl _) ?_
   intro v18 W2 ho hb hg_ hn_
   rw [Int.toNat_natCast] at ho
   have BK2 := blk_below BK hb
   refine hK.out _ _ ⟨(blk_cell BK2 0).trans rfl, (blk_cell BK2 1).trans rfl⟩ (fun _ => ?_)
   refine norm_ (a' := { tmps := #[.agg #[.slice A0_0 l0_0.length c0_0, .slice A0_1 l0_1.length c0_1], .pointer (some ⟨gb, 0, none⟩), .pointer none, .pointer (some ⟨gb, 0, none⟩), .slice A0_0 l0_0.length c0_0, v5, .pointer (some ⟨gb, 1, none⟩), .slice A0_1 l0_1.length c0_1, undef, undef, .pointer (some ⟨gb, 0, none⟩), .slice A0_0 l0_0.length c0_0, .int .i64 (l0_0.length : Int), .int .i64 ((l0_0.length : Int) + 1), v14, .pointer (some ⟨gb, 0, none⟩), .slice A0_0 l0_0.length c0_0, .int .i64 (l0_0.length : Int), v18, undef, undef], defers := [] }) (by show Act.put _ (some 18) _ = _; simp only [Act.put, List.setIfInBounds_toArray, List.set_cons_zero, List.set_cons_succ]) ?_
   (try simp only [List.setIfInBounds_toArray, List.set_cons_zero, List.set_cons_succ])
   exact h_2_11_15 v5 v14 v18 W2 (below_then HB HB.size hb) BK2 (Kd.R_below O5 hb) (Kd.R_below O14 hb) (Kd.R_lower ho HB.size) N5_14 (apart_new O5 ho) (apart_new O14 ho)
 have h_2_15 : ∀ (v5 v18 : Value) (W : World), Go.RowKit.Below w.heap.size w W → W.heap[gb]? = some (.cells #[.slice A0_0 l0_0.length c0_0, .slice A0_1 l0_1.length c0_1] 29 (0, 0)) → Kd.R (Kd.int .i64) 3 W w.heap.size (fun _ => True) v5 l0_0 → Kd.R (Kd.int .i64) 3 W w.heap.size (fun _ => True) v18 (List.replicate l0_0.length (0 : Int)) → (∀ k, v5.ownBlock = some k → v18.ownBlock ≠ some k) → wpAnyLast Try.prog .any (opsOf Try.f40 1) Q (fun w' : World => w'.cell? ⟨gb, 0, none⟩ = some (.slice A0_0 l0_0.length c0_0) ∧ w'.cell? ⟨gb, 1, none⟩ = some (.slice A0_1 l0_1.length c0_1)) [] 6 #[true, true, true, true, true, false, false, true, true, true, true, false, true, true, true, true, false, false, false] { tmps := #[.agg #[.slice A0_0 l0_0.length c0_0, .slice A0_1 l0_1.length c0_1], .pointer (some ⟨gb, 0, none⟩), .pointer none, .pointer (some ⟨gb, 0, none⟩), .slice A0_0 l0_0.length c0_0, v5, .pointer (some ⟨gb, 1, none⟩), .slice A0_1 l0_1.length c0_1, undef, undef, .pointer (some ⟨gb, 0, none⟩), .slice A0_0 l0_0.length c0_0, .int .i64 (l0_0.length : Int), .int .i64 ((l0_0.length : Int) + 1), undef, .pointer (some ⟨gb, 0, none⟩), .slice A0_0 l0_0.length c0_0, .int .i64 (l0_0.length : Int), v18, undef, undef], defers := [] } W := by
  intro v5 v18 W HB BK O5 O18 N5_18
  refine wpAnyLast_ready (rs := [5, 11]) (by kernel_rfl) (by simp) (AllReadyL.cons (i := 5) rfl (by decide) (fun K hK => ?a5) (AllReadyL.cons (i := 11) rfl (by decide) (fun K hK => ?a11) AllReadyL.nil))
  case a5 =>
   refine goes_ Try.func63 (by kernel_rfl) rfl #[.slice A0_1 l0_1.length c0_1] (by rfl) rfl rfl (by (try simp only [List.map_toArray, List.map_cons, List.map_nil]); first | done | rfl) ?_
   refine (slices_Clone_bool_bool.calls _ _ l0_1 l0_1 W (Kd.C_below hr1 HB) (by assumption) (by unfold slices_Clone_bool_bool.f; rw [if_pos (by omega)])).mono ?_
   rintro e W2 ⟨v8, rfl, ho, hb⟩
   refine ⟨_, rfl, ?_⟩
   have BK2 := blk_below BK hb
   refine hK.out _ _ ⟨(blk_cell BK2 0).trans rfl, (blk_cell BK2 1).trans rfl⟩ (fun _ => ?_)
   refine norm_ (a' := { tmps := #[.agg #[.slice A0_0 l0_0.length c0_0, .slice A0_1 l0_1.length c0_1], .pointer (some ⟨gb, 0, none⟩), .pointer none, .pointer (some ⟨gb, 0, none⟩), .slice A0_0 l0_0.length c0_0, v5, .pointer (some ⟨gb, 1, none⟩), .slice A0_1 l0_1.length c0_1, v8, undef, .pointer (some ⟨gb, 0, none⟩), .slice A0_0 l0_0.length c0_0, .int .i64 (l0_0.length : Int), .int .i64 ((l0_0.length : Int) + 1), undef, .pointer (some ⟨gb, 0, none⟩), .slice A0_0 l0_0.length c0_0, .int .i64 (l0_0.length : Int), v18, undef, undef], defers := [] }) (by show Act.put _ (some 8) _ = _; simp only [Act.put, List.setIfInBounds_toArray, List.set_cons_zero, List.set_cons_succ]) ?_
   (try simp only [List.setIfInBounds_toArray, List.set_cons_zero, List.set_cons_succ])
   refine pure_ (i := 6) (N := some 9) (v := .agg #[v5, v8]) (a' := { tmps := #[.agg #[.slice A0_0 l0_0.length c0_0, .slice A0_1 l0_1.length c0_1], .pointer (some ⟨gb, 0, none⟩), .pointer none, .pointer (some ⟨gb, 0, none⟩), .slice A0_0 l0_0.length c0_0, v5, .pointer (some ⟨gb, 1, none⟩), .slice A0_1 l0_1.length c0_1, v8, .agg #[v5, v8], .pointer (some ⟨gb, 0, none⟩), .slice A0_0 l0_0.length c0_0, .int .i64 (l0_0.length : Int), .int .i64 ((l0_0.length : Int) + 1), undef, .pointer (some ⟨gb, 0, none⟩), .slice A0_0 l0_0.length c0_0, .int .i64 (l0_0.length : Int), v18, undef, undef], defers := [] }) #[true, true, true, true, true, true, true, true, true, true, true, false, true, true, true, true, false, false, false] passage_op6 rfl (by kernel_rfl) (fun _ _ _ h => hQ _ _ _ _ _ h) (Or.inl ⟨by rfl, ?_⟩) (by simp only [Act.put, List.setIfInBounds_toArray, List.set_cons_zero, List.set_cons_succ]) ?_
   ·intro w'
    obtain ⟨Ao5, co5, eo5⟩ := Kd.R_slice O5
    obtain ⟨Ao8, co8, eo8⟩ := Kd.R_slice ho
    rw [eo5, eo8]
    go_simp
    first | done | rfl
   exact h_2_5_15 v5 v8 v18 W2 (below_then HB HB.size hb) BK2 (Kd.R_below O5 hb) (Kd.R_lower ho HB.size) (Kd.R_below O18 hb) N5_18
  case a11 =>
   refine Kd.R_make_step (Kd.int .i64) (w0 := W) W.heap.size 3 rfl (N := 14) rfl 22 _ _ rfl ((l0_0.length : Int) + 1) rfl rfl Try.underlying22 (.int .i64 0) 8 info3 rfl (by decide) (by omega) (0 : Int) (ok := fun _ => True) (okp := fun _ => True) rfl (fun _ hk => hk) trivial (by omega) (by omega) (Go.RowKit.Below.refl _ _) (Nat.le_refl _) ?_
   intro v14 W2 ho hb hg_ hn_
   rw [show ((l0_0.length : Int) + 1).toNat = l0_0.length + 1 by omega] at ho
   have BK2 := blk_below BK hb
   refine hK.out _ _ ⟨(blk_cell BK2 0).trans rfl, (blk_cell BK2 1).trans rfl⟩ (fun _ => ?_)
   refine norm_ (a' := { tmps := #[.agg #[.slice A0_0 l0_0.length c0_0, .slice A0_1 l0_1.length c0_1], .pointer (some ⟨gb, 0, none⟩), .pointer none, .pointer (some ⟨gb, 0, none⟩), .slice A0_0 l0_0.length c0_0, v5, .pointer (some ⟨gb, 1, none⟩), .slice A0_1 l0_1.length c0_1, undef, undef, .pointer (some ⟨gb, 0, none⟩), .slice A0_0 l0_0.length c0_0, .int .i64 (l0_0.length : Int), .int .i64 ((l0_0.length : Int) + 1), v14, .pointer (some ⟨gb, 0, none⟩), .slice A0_0 l0_0.length c0_0, .int .i64 (l0_0.length : Int), v18, undef, undef], defers := [] }) (by show Act.put _ (some 14) _ = _; simp only [Act.put, List.setIfInBounds_toArray, List.set_cons_zero, List.set_cons_succ]) ?_
   (try simp only [List.setIfInBounds_toArray, List.set_cons_zero, List.set_cons_succ])
   exact h_2_11_15 v5 v14 v18 W2 (below_then HB HB.size hb) BK2 (Kd.R_below O5 hb) (Kd.R_lower ho HB.size) (Kd.R_below O18 hb) (apart_new O5 ho) N5_18 (fun k h1 h2 => apart_new O18 ho k h2 h1)
 have h_11_15 : ∀ (v14 v18 : Value) (W : World), Go.RowKit.Below w.heap.size w W → W.heap[gb]? = some (.cells #[.slice A0_0 l0_0.length c0_0, .slice A0_1 l0_1.length c0_1] 29 (0, 0)) → Kd.R (Kd.int .i64) 3 W w.heap.size (fun _ => True) v14 (List.replicate (l0_0.length + 1) (0 : Int)) → Kd.R (Kd.int .i64) 3 W w.heap.size (fun _ => True) v18 (List.replicate l0_0.length (0 : Int)) → (∀ k, v14.ownBlock = some k → v18.ownBlock ≠ some k) → wpAnyLast Try.prog .any (opsOf Try.f40 1) Q (fun w' : World => w'.cell? ⟨gb, 0, none⟩ = some (.slice A0_0 l0_0.length c0_0) ∧ w'.cell? ⟨gb, 1, none⟩ = some (.slice A0_1 l0_1.length c0_1)) [] 6 #[true, true, false, true, true, false, false, true, true, true, true, true, true, true, true, true, false, false, false] { tmps := #[.agg #[.slice A0_0 l0_0.length c0_0, .slice A0_1 l0_1.length c0_1], .pointer (some ⟨gb, 0, none⟩), .pointer none, .pointer (some ⟨gb, 0, none⟩), .slice A0_0 l0_0.length c0_0, undef, .pointer (some ⟨gb, 1, none⟩), .slice A0_1 l0_1.length c0_1, undef, undef, .pointer (some ⟨gb, 0, none⟩), .slice A0_0 l0_0.length c0_0, .int .i64 (l0_0.length : Int), .int .i64 ((l0_0.length : Int) + 1), v14, .pointer (some ⟨gb, 0, none⟩), .slice A0_0 l0_0.length c0_0, .int .i64 (l0_0.length : Int), v18, undef, undef], defers := [] } W := by
  intro v14 v18 W HB BK O14 O18 N14_18
  refine wpAnyLast_ready (rs := [2]) (by kernel_rfl) (by simp) (AllReadyL.cons (i := 2) rfl (by decide) (fun K hK => ?a2) AllReadyL.nil)
  case a2 =>
   refine goes_ Try.func62 (by kernel_rfl) rfl #[.slice A0_0 l0_0.length c0_0] (by rfl) rfl rfl (by (try simp only [List.map_toArray, List.map_cons, List.map_nil]); first | done | rfl) ?_
   refine (slices_Clone_int_int.calls _ _ l0_0 l0_0 W (Kd.C_below hr0 HB) (by assumption) (by unfold slices_Clone_int_int.f; rw [if_pos (by omega)])).mono ?_
   rintro e W2 ⟨v5, rfl, ho, hb⟩
   refine ⟨_, rfl, ?_⟩
   have BK2 := blk_below BK hb
   refine hK.out _ _ ⟨(blk_cell BK2 0).trans rfl, (blk_cell BK2 1).trans rfl⟩ (fun _ => ?_)
   refine norm_ (a' := { tmps := #[.agg #[.slice A0_0 l0_0.length c0_0, .slice A0_1 l0_1.length c0_1], .pointer (some ⟨gb, 0, none⟩), .pointer none, .pointer (some ⟨gb, 0, none⟩), .slice A0_0 l0_0.length c0_0, v5, .pointer (some ⟨gb, 1, none⟩), .slice A0_1 l0_1.length c0_1, undef, undef, .pointer (some ⟨gb, 0, none⟩), .slice A0_0 l0_0.length c0_0, .int .i64 (l0_0.length : Int), .int .i64 ((l0_0.length : Int) + 1), v14, .pointer (some ⟨gb, 0, none⟩), .slice A0_0 l0_0.length c0_0, .int .i64 (l0_0.length : Int), v18, undef, undef], defers := [] }) (by show Act.put _ (some 5) _ = _; simp only [Act.put, List.setIfInBounds_toArray, List.set_cons_zero, List.set_cons_succ]) ?_
   (try simp only [List.setIfInBounds_toArray, List.set_cons_zero, List.set_cons_succ])
   exact h_2_11_15 v5 v14 v18 W2 (below_then HB HB.size hb) BK2 (Kd.R_lower ho HB.size) (Kd.R_below O14 hb) (Kd.R_below O18 hb) (fun k h1 h2 => apart_new O14 ho k h2 h1) (fun k h1 h2 => apart_new O18 ho k h2 h1) N14_18
 have h_2 : ∀ (v5 : Value) (W : World), Go.RowKit.Below w.heap.size w W → W.heap[gb]? = some (.cells #[.slice A0_0 l0_0.length c0_0, .slice A0_1 l0_1.length c0_1] 29 (0, 0)) → Kd.R (Kd.int .i64) 3 W w.heap.size (fun _ => True) v5 l0_0 → wpAnyLast Try.prog .any (opsOf Try.f40 1) Q (fun w' : World => w'.cell? ⟨gb, 0, none⟩ = some (.slice A0_0 l0_0.length c0_0) ∧ w'.cell? ⟨gb, 1, none⟩ = some (.slice A0_1 l0_1.length c0_1)) [] 7 #[true, true, true, true, true, false, false, true, true, true, true, false, true, true, true, false, false, false, false] { tmps := #[.agg #[.slice A0_0 l0_0.length c0_0, .slice A0_1 l0_1.length c0_1], .pointer (some ⟨gb, 0, none⟩), .pointer none, .pointer (some ⟨gb, 0, none⟩), .slice A0_0 l0_0.length c0_0, v5, .pointer (some ⟨gb, 1, none⟩), .slice A0_1 l0_1.length c0_1, undef, undef, .pointer (some ⟨gb, 0, none⟩), .slice A0_0 l0_0.length c0_0, .int .i64 (l0_0.length : Int), .int .i64 ((l0_0.length : Int) + 1), undef, .pointer (some ⟨gb, 0, none⟩), .slice A0_0 l0_0.length c0_0, .int .i64 (l0_0.length : Int), undef, undef, undef], defers := [] } W := by
  intro v5 W HB BK O5
  refine wpAnyLast_ready (rs := [5, 11, 15]) (by kernel_rfl) (by simp) (AllReadyL.cons (i := 5) rfl (by decide) (fun K hK => ?a5) (AllReadyL.cons (i := 11) rfl (by decide) (fun K hK => ?a11) (AllReadyL.cons (i := 15) rfl (by decide) (fun K hK => ?a15) AllReadyL.nil)))
  case a5 =>
   refine goes_ Try.func63 (by kernel_rfl) rfl #[.slice A0_1 l0_1.length c0_1] (by rfl) rfl rfl (by (try simp only [List.map_toArray, List.map_cons, List.map_nil]); first | done | rfl) ?_
   refine (slices_Clone_bool_bool.calls _ _ l0_1 l0_1 W (Kd.C_below hr1 HB) (by assumption) (by unfold slices_Clone_bool_bool.f; rw [if_pos (by omega)])).mono ?_
   rintro e W2 ⟨v8, rfl, ho, hb⟩
   refine ⟨_, rfl, ?_⟩
   have BK2 := blk_below BK hb
   refine hK.out _ _ ⟨(blk_cell BK2 0).trans rfl, (blk_cell BK2 1).trans rfl⟩ (fun _ => ?_)
   refine norm_ (a' := { tmps := #[.agg #[.slice A0_0 l0_0.length c0_0, .slice A0_1 l0_1.length c0_1], .pointer (some ⟨gb, 0, none⟩), .pointer none, .pointer (some ⟨gb, 0, none⟩), .slice A0_0 l0_0.length c0_0, v5, .pointer (some ⟨gb, 1, none⟩), .slice A0_1 l0_1.length c0_1, v8, undef, .pointer (some ⟨gb, 0, none⟩), .slice A0_0 l0_0.length c0_0, .int .i64 (l0_0.length : Int), .int .i64 ((l0_0.length : Int) + 1), undef, .pointer (some ⟨gb, 0, none⟩), .slice A0_0 l0_0.length c0_0, .int .i64 (l0_0.length : Int), undef, undef, undef], defers := [] }) (by show Act.put _ (some 8) _ = _; simp only [Act.put, List.setIfInBounds_toArray, List.set_cons_zero, List.set_cons_succ]) ?_
   (try simp only [List.setIfInBounds_toArray, List.set_cons_zero, List.set_cons_succ])
   refine pure_ (i := 6) (N := some 9) (v := .agg #[v5, v8]) (a' := { tmps := #[.agg #[.slice A0_0 l0_0.length c0_0, .slice A0_1 l0_1.length c0_1], .pointer (some ⟨gb, 0, none⟩), .pointer none, .pointer (some ⟨gb, 0, none⟩), .slice A0_0 l0_0.length c0_0, v5, .pointer (some ⟨gb, 1, none⟩), .slice A0_1 l0_1.length c0_1, v8, .agg #[v5, v8], .pointer (some ⟨gb, 0, none⟩), .slice A0_0 l0_0.length c0_0, .int .i64 (l0_0.length : Int), .int .i64 ((l0_0.length : Int) + 1), undef, .pointer (some ⟨gb, 0, none⟩), .slice A0_0 l0_0.length c0_0, .int .i64 (l0_0.length : Int), undef, undef, undef], defers := [] }) #[true, true, true, true, true, true, true, true, true, true, true, false, true, true, true, false, false, false, false] passage_op6 rfl (by kernel_rfl) (fun _ _ _ h => hQ _ _ _ _ _ h) (Or.inl ⟨by rfl, ?_⟩) (by simp only [Act.put, List.setIfInBounds_toArray, List.set_cons_zero, List.set_cons_succ]) ?_
   ·intro w'
    obtain ⟨Ao5, co5, eo5⟩ := Kd.R_slice O5
    obtain ⟨Ao8, co8, eo8⟩ := Kd.R_slice ho
    rw [eo5, eo8]
    go_simp
    first | done | rfl
   exact h_2_5 v5 v8 W2 (below_then HB HB.size hb) BK2 (Kd.R_below O5 hb) (Kd.R_lower ho HB.size)
  case a11 =>
   refine Kd.R_make_step (Kd.int .i64) (w0 := W) W.heap.size 3 rfl (N := 14) rfl 22 _ _ rfl ((l0_0.length : Int) + 1) rfl rfl Try.underlying22 (.int .i64 0) 8 info3 rfl (by decide) (by omega) (0 : Int) (ok := fun _ => True) (okp := fun _ => True) rfl (fun _ hk => hk) trivial (by omega) (by omega) (Go.RowKit.Below.refl _ _) (Nat.le_refl _) ?_
   intro v14 W2 ho hb hg_ hn_
   rw [show ((l0_0.length : Int) + 1).toNat = l0_0.length + 1 by omega] at ho
   have BK2 := blk_below BK hb
   refine hK.out _ _ ⟨(blk_cell BK2 0).trans rfl, (blk_cell BK2 1).trans rfl⟩ (fun _ => ?_)
   refine norm_ (a' := { tmps := #[.agg #[.slice A0_0 l0_0.length c0_0, .slice A0_1 l0_1.length c0_1], .pointer (some ⟨gb, 0, none⟩), .pointer none, .pointer (some ⟨gb, 0, none⟩), .slice A0_0 l0_0.length c0_0, v5, .pointer (some ⟨gb, 1, none⟩), .slice A0_1 l0_1.length c0_1, undef, undef, .pointer (some ⟨gb, 0, none⟩), .slice A0_0 l0_0.length c0_0, .int .i64 (l0_0.length : Int), .int .i64 ((l0_0.length : Int) + 1), v14, .pointer (some ⟨gb, 0, none⟩), .slice A0_0 l0_0.length c0_0, .int .i64 (l0_0.length : Int), undef, undef, undef], defers := [] }) (by show Act.put _ (some 14) _ = _; simp only [Act.put, List.setIfInBounds_toArray, List.set_cons_zero, List.set_cons_succ]) ?_
   (try simp only [List.setIfInBounds_toArray, List.set_cons_zero, List.set_cons_succ])
   exact h_2_11 v5 v14 W2 (below_then HB HB.size hb) BK2 (Kd.R_below O5 hb) (Kd.R_lower ho HB.size) (apart_new O5 ho)
  case a15 =>
   refine Kd.R_make_step (Kd.int .i64) (w0 := W) W.heap.size 3 rfl (N := 18) rfl 22 _ _ rfl (l0_0.length : Int) rfl rfl Try.underlying22 (.int .i64 0) 8 info3 rfl (by decide) (by omega) (0 : Int) (ok := fun _ => True) (okp := fun _ => True) rfl (fun _ hk => hk) trivial (by omega) (by omega) (Go.RowKit.Below.refl _ _) (Nat.le_refl _) ?_
   intro v18 W2 ho hb hg_ hn_
   rw [Int.toNat_natCast] at ho
   have BK2 := blk_below BK hb
   refine hK.out _ _ ⟨(blk_cell BK2 0).trans rfl, (blk_cell BK2 1).trans rfl⟩ (fun _ => ?_)
   refine norm_ (a' := { tmps := #[.agg #[.slice A0_0 l0_0.length c0_0, .slice A0_1 l0_1.length c0_1], .pointer (some ⟨gb, 0, none⟩), .pointer none, .pointer (some ⟨gb, 0, none⟩), .slice A0_0 l0_0.length c0_0, v5, .pointer (some ⟨gb, 1, none⟩), .slice A0_1 l0_1.length c0_1, undef, undef, .pointer (some ⟨gb, 0, none⟩), .slice A0_0 l0_0.length c0_0, .int .i64 (l0_0.length : Int), .int .i64 ((l0_0.length : Int) + 1), undef, .pointer (some ⟨gb, 0, none⟩), .slice A0_0 l0_0.length c0_0, .int .i64 (l0_0.length : Int), v18, undef, undef], defers := [] }) (by show Act.put _ (some 18) _ = _; simp only [Act.put, List.setIfInBounds_toArray, List.set_cons_zero, List.set_cons_succ]) ?_
   (try simp only [List.setIfInBounds_toArray, List.set_cons_zero, List.set_cons_succ])
   exact h_2_15 v5 v18 W2 (below_then HB HB.size hb) BK2 (Kd.R_below O5 hb) (Kd.R_lower ho HB.size) (apart_new O5 ho)
 have h_11 : ∀ (v14 : Value) (W : World), Go.RowKit.Below w.heap.size w W → W.heap[gb]? = some (.cells #[.slice A0_0 l0_0.length c0_0, .slice A0_1 l0_1.length c0_1] 29 (0, 0)) → Kd.R (Kd.int .i64) 3 W w.heap.size (fun _ => True) v14 (List.replicate (l0_0.length + 1) (0 : Int)) → wpAnyLast Try.prog .any (opsOf Try.f40 1) Q (fun w' : World => w'.cell? ⟨gb, 0, none⟩ = some (.slice A0_0 l0_0.length c0_0) ∧ w'.cell? ⟨gb, 1, none⟩ = some (.slice A0_1 l0_1.length c0_1)) [] 7 #[true, true, false, true, true, false, false, true, true, true, true, true, true, true, true, false, false, false, false] { tmps := #[.agg #[.slice A0_0 l0_0.length c0_0, .slice A0_1 l0_1.length c0_1], .pointer (some ⟨gb, 0, none⟩), .pointer none, .pointer (some ⟨gb, 0, none⟩), .slice A0_0 l0_0.length c0_0, undef, .pointer (some ⟨gb, 1, none⟩), .slice A0_1 l0_1.length c0_1, undef, undef, .pointer (some ⟨gb, 0, none⟩), .slice A0_0 l0_0.length c0_0, .int .i64 (l0_0.length : Int), .int .i64 ((l0_0.length : Int) + 1), v14, .pointer (some ⟨gb, 0, none⟩), .slice A0_0 l0_0.length c0_0, .int .i64 (l0_0.length : Int), undef, undef, undef], defers := [] } W := by
  intro v14 W HB BK O14
  refine wpAnyLast_ready (rs := [2, 15]) (by kernel_rfl) (by simp) (AllReadyL.cons (i := 2) rfl (by decide) (fun K hK => ?a2) (AllReadyL.cons (i := 15) rfl (by decide) (fun K hK => ?a15) AllReadyL.nil))
  case a2 =>
   refine goes_ Try.func62 (by kernel_rfl) rfl #[.slice A0_0 l0_0.length c0_0] (by rfl) rfl rfl (by (try simp only [List.map_toArray, List.map_cons, List.map_nil]); first | done | rfl) ?_
   refine (slices_Clone_int_int.calls _ _ l0_0 l0_0 W (Kd.C_below hr0 HB) (by assumption) (by unfold slices_Clone_int_int.f; rw [if_pos (by omega)])).mono ?_
   rintro e W2 ⟨v5, rfl, ho, hb⟩
   refine ⟨_, rfl, ?_⟩
   have BK2 := blk_below BK hb
   refine hK.out _ _ ⟨(blk_cell BK2 0).trans rfl, (blk_cell BK2 1).trans rfl⟩ (fun _ => ?_)
   refine norm_ (a' := { tmps := #[.agg #[.slice A0_0 l0_0.length c0_0, .slice A0_1 l0_1.length c0_1], .pointer (some ⟨gb, 0, none⟩), .pointer none, .pointer (some ⟨gb, 0, none⟩), .slice A0_0 l0_0.length c0_0, v5, .pointer (some ⟨gb, 1, none⟩), .slice A0_1 l0_1.length c0_1, undef, undef, .pointer (some ⟨gb, 0, none⟩), .slice A0_0 l0_0.length c0_0, .int .i64 (l0_0.length : Int), .int .i64 ((l0_0.length : Int) + 1), v14, .pointer (some ⟨gb, 0, none⟩), .slice A0_0 l0_0.length c0_0, .int .i64 (l0_0.length : Int), undef, undef, undef], defers := [] }) (by show Act.put _ (some 5) _ = _; simp only [Act.put, List.setIfInBounds_toArray, List.set_cons_zero, List.set_cons_succ]) ?_
   (try simp only [List.setIfInBounds_toArray, List.set_cons_zero, List.set_cons_succ])
   exact h_2_11 v5 v14 W2 (below_then HB HB.size hb) BK2 (Kd.R_lower ho HB.size) (Kd.R_below O14 hb) (fun k h1 h2 => apart_new O14 ho k h2 h1)
  case a15 =>
   refine Kd.R_make_step (Kd.int .i64) (w0 := W) W.heap.size 3 rfl (N := 18) rfl 22 _ _ rfl (l0_0.length : Int) rfl rfl Try.underlying22 (.int .i64 0) 8 info3 rfl (by decide) (by omega) (0 : Int) (ok := fun _ => True) (okp := fun _ => True) rfl (fun _ hk => hk) trivial (by omega) (by omega) (Go.RowKit.Below.refl _ _) (Nat.le_refl _) ?_
   intro v18 W2 ho hb hg_ hn_
   rw [Int.toNat_natCast] at ho
   have BK2 := blk_below BK hb
   refine hK.out _ _ ⟨(blk_cell BK2 0).trans rfl, (blk_cell BK2 1).trans rfl⟩ (fun _ => ?_)
   refine norm_ (a' := { tmps := #[.agg #[.slice A0_0 l0_0.length c0_0, .slice A0_1 l0_1.length c0_1], .pointer (some ⟨gb, 0, none⟩), .pointer none, .pointer (some ⟨gb, 0, none⟩), .slice A0_0 l0_0.length c0_0, undef, .pointer (some ⟨gb, 1, none⟩), .slice A0_1 l0_1.length c0_1, undef, undef, .pointer (some ⟨gb, 0, none⟩), .slice A0_0 l0_0.length c0_0, .int .i64 (l0_0.length : Int), .int .i64 ((l0_0.length : Int) + 1), v14, .pointer (some ⟨gb, 0, none⟩), .slice A0_0 l0_0.length c0_0, .int .i64 (l0_0.length : Int), v18, undef, undef], defers := [] }) (by show Act.put _ (some 18) _ = _; simp only [Act.put, List.setIfInBounds_toArray, List.set_cons_zero, List.set_cons_succ]) ?_
   (try simp only [List.setIfInBounds_toArray, List.set_cons_zero, List.set_cons_succ])
   exact h_11_15 v14 v18 W2 (below_then HB HB.size hb) BK2 (Kd.R_below O14 hb) (Kd.R_lower ho HB.size) (apart_new O14 ho)
 have h_15 : ∀ (v18 : Value) (W : World), Go.RowKit.Below w.heap.size w W → W.heap[gb]? = some (.cells #[.slice A0_0 l0_0.length c0_0, .slice A0_1 l0_1.length c0_1] 29 (0, 0)) → Kd.R (Kd.int .i64) 3 W w.heap.size (fun _ => True) v18 (List.replicate l0_0.length (0 : Int)) → wpAnyLast Try.prog .any (opsOf Try.f40 1) Q (fun w' : World => w'.cell? ⟨gb, 0, none⟩ = some (.slice A0_0 l0_0.length c0_0) ∧ w'.cell? ⟨gb, 1, none⟩ = some (.slice A0_1 l0_1.length c0_1)) [] 7 #[true, true, false, true, true, false, false, true, true, true, true, false, true, true, true, true, false, false, false] { tmps := #[.agg #[.slice A0_0 l0_0.length c0_0, .slice A0_1 l0_1.length c0_1], .pointer (some ⟨gb, 0, none⟩), .pointer none, .pointer (some ⟨gb, 0, none⟩), .slice A0_0 l0_0.length c0_0, undef, .pointer (some ⟨gb, 1, none⟩), .slice A0_1 l0_1.length c0_1, undef, undef, .pointer (some ⟨gb, 0, none⟩), .slice A0_0 l0_0.length c0_0, .int .i64 (l0_0.length : Int), .int .i64 ((l0_0.length : Int) + 1), undef, .pointer (some ⟨gb, 0, none⟩), .slice A0_0 l0_0.length c0_0, .int .i64 (l0_0.length : Int), v18, undef, undef], defers := [] } W := by
  intro v18 W HB BK O18
  refine wpAnyLast_ready (rs := [2, 11]) (by kernel_rfl) (by simp) (AllReadyL.cons (i := 2) rfl (by decide) (fun K hK => ?a2) (AllReadyL.cons (i := 11) rfl (by decide) (fun K hK => ?a11) AllReadyL.nil))
  case a2 =>
   refine goes_ Try.func62 (by kernel_rfl) rfl #[.slice A0_0 l0_0.length c0_0] (by rfl) rfl rfl (by (try simp only [List.map_toArray, List.map_cons, List.map_nil]); first | done | rfl) ?_
   refine (slices_Clone_int_int.calls _ _ l0_0 l0_0 W (Kd.C_below hr0 HB) (by assumption) (by unfold slices_Clone_int_int.f; rw [if_pos (by omega)])).mono ?_
   rintro e W2 ⟨v5, rfl, ho, hb⟩
   refine ⟨_, rfl, ?_⟩
   have BK2 := blk_below BK hb
   refine hK.out _ _ ⟨(blk_cell BK2 0).trans rfl, (blk_cell BK2 1).trans rfl⟩ (fun _ => ?_)
   refine norm_ (a' := { tmps := #[.agg #[.slice A0_0 l0_0.length c0_0, .slice A0_1 l0_1.length c0_1], .pointer (some ⟨gb, 0, none⟩), .pointer none, .pointer (some ⟨gb, 0, none⟩), .slice A0_0 l0_0.length c0_0, v5, .pointer (some ⟨gb, 1, none⟩), .slice A0_1 l0_1.length c0_1, undef, undef, .pointer (some ⟨gb, 0, none⟩), .slice A0_0 l0_0.length c0_0, .int .i64 (l0_0.length : Int), .int .i64 ((l0_0.length : Int) + 1), undef, .pointer (some ⟨gb, 0, none⟩), .slice A0_0 l0_0.length c0_0, .int .i64 (l0_0.length : Int), v18, undef, undef], defers := [] }) (by show Act.put _ (some 5) _ = _; simp only [Act.put, List.setIfInBounds_toArray, List.set_cons_zero, List.set_cons_succ]) ?_
   (try simp only [List.setIfInBounds_toArray, List.set_cons_zero, List.set_cons_succ])
   exact h_2_15 v5 v18 W2 (below_then HB HB.size hb) BK2 (Kd.R_lower ho HB.size) (Kd.R_below O18 hb) (fun k h1 h2 => apart_new O18 ho k h2 h1)
  case a11 =>
   refine Kd.R_make_step (Kd.int .i64) (w0 := W) W.heap.size 3 rfl (N := 14) rfl 22 _ _ rfl ((l0_0.length : Int) + 1) rfl rfl Try.underlying22 (.int .i64 0) 8 info3 rfl (by decide) (by omega) (0 : Int) (ok := fun _ => True) (okp := fun _ => True) rfl (fun _ hk => hk) trivial (by omega) (by omega) (Go.RowKit.Below.refl _ _) (Nat.le_refl _) ?_
   intro v14 W2 ho hb hg_ hn_
   rw [show ((l0_0.length : Int) + 1).toNat = l0_0.length + 1 by omega] at ho
   have BK2 := blk_below BK hb
   refine hK.out _ _ ⟨(blk_cell BK2 0).trans rfl, (blk_cell BK2 1).trans rfl⟩ (fun _ => ?_)
   refine norm_ (a' := { tmps := #[.agg #[.slice A0_0 l0_0.length c0_0, .slice A0_1 l0_1.length c0_1], .pointer (some ⟨gb, 0, none⟩), .pointer none, .pointer (some ⟨gb, 0, none⟩), .slice A0_0 l0_0.length c0_0, undef, .pointer (some ⟨gb, 1, none⟩), .slice A0_1 l0_1.length c0_1, undef, undef, .pointer (some ⟨gb, 0, none⟩), .slice A0_0 l0_0.length c0_0, .int .i64 (l0_0.length : Int), .int .i64 ((l0_0.length : Int) + 1), v14, .pointer (some ⟨gb, 0, none⟩), .slice A0_0 l0_0.length c0_0, .int .i64 (l0_0.length : Int), v18, undef, undef], defers := [] }) (by show Act.put _ (some 14) _ = _; simp only [Act.put, List.setIfInBounds_toArray, List.set_cons_zero, List.set_cons_succ]) ?_
   (try simp only [List.setIfInBounds_toArray, List.set_cons_zero, List.set_cons_succ])
   exact h_11_15 v14 v18 W2 (below_then HB HB.size hb) BK2 (Kd.R_lower ho HB.size) (Kd.R_below O18 hb) (fun k h1 h2 => apart_new O18 ho k h2 h1)
 refine wpAnyLast_ready (rs := [2, 11, 15]) (by kernel_rfl) (by simp) (AllReadyL.cons (i := 2) rfl (by decide) (fun K hK => ?a2) (AllReadyL.cons (i := 11) rfl (by decide) (fun K hK => ?a11) (AllReadyL.cons (i := 15) rfl (by decide) (fun K hK => ?a15) AllReadyL.nil)))
 case a2 =>
  refine goes_ Try.func62 (by kernel_rfl) rfl #[.slice A0_0 l0_0.length c0_0] (by rfl) rfl rfl (by (try simp only [List.map_toArray, List.map_cons, List.map_nil]); first | done | rfl) ?_
  refine (slices_Clone_int_int.calls _ _ l0_0 l0_0 W (Kd.C_below hr0 HB) (by assumption) (by unfold slices_Clone_int_int.f; rw [if_pos (by omega)])).mono ?_
  rintro e W2 ⟨v5, rfl, ho, hb⟩
  refine ⟨_, rfl, ?_⟩
  have BK2 := blk_below BK hb
  refine hK.out _ _ ⟨(blk_cell BK2 0).trans rfl, (blk_cell BK2 1).trans rfl⟩ (fun _ => ?_)
  refine norm_ (a' := { tmps := #[.agg #[.slice A0_0 l0_0.length c0_0, .slice A0_1 l0_1.length c0_1], .pointer (some ⟨gb, 0, none⟩), .pointer none, .pointer (some ⟨gb, 0, none⟩), .slice A0_0 l0_0.length c0_0, v5, .pointer (some ⟨gb, 1, none⟩), .slice A0_1 l0_1.length c0_1, undef, undef, .pointer (some ⟨gb, 0, none⟩), .slice A0_0 l0_0.length c0_0, .int .i64 (l0_0.length : Int), .int .i64 ((l0_0.length : Int) + 1), undef, .pointer (some ⟨gb, 0, none⟩), .slice A0_0 l0_0.length c0_0, .int .i64 (l0_0.length : Int), undef, undef, undef], defers := [] }) (by show Act.put _ (some 5) _ = _; simp only [Act.put, List.setIfInBounds_toArray, List.set_cons_zero, List.set_cons_succ]) ?_
  (try simp only [List.setIfInBounds_toArray, List.set_cons_zero, List.set_cons_succ])
  exact h_2 v5 W2 (below_then HB HB.size hb) BK2 (Kd.R_lower ho HB.size)
 case a11 =>
  refine Kd.R_make_step (Kd.int .i64) (w0 := W) W.heap.size 3 rfl (N := 14) rfl 22 _ _ rfl ((l0_0.length : Int) + 1) rfl rfl Try.underlying22 (.int .i64 0) 8 info3 rfl (by decide) (by omega) (0 : Int) (ok := fun _ => True) (okp := fun _ => True) rfl (fun _ hk => hk) trivial (by omega) (by omega) (Go.RowKit.Below.refl _ _) (Nat.le_refl _) ?_
  intro v14 W2 ho hb hg_ hn_
  rw [show ((l0_0.length : Int) + 1).toNat = l0_0.length + 1 by omega] at ho
  have BK2 := blk_below BK hb
  refine hK.out _ _ ⟨(blk_cell BK2 0).trans rfl, (blk_cell BK2 1).trans rfl⟩ (fun _ => ?_)
  refine norm_ (a' := { tmps := #[.agg #[.slice A0_0 l0_0.length c0_0, .slice A0_1 l0_1.length c0_1], .pointer (some ⟨gb, 0, none⟩), .pointer none, .pointer (some ⟨gb, 0, none⟩), .slice A0_0 l0_0.length c0_0, undef, .pointer (some ⟨gb, 1, none⟩), .slice A0_1 l0_1.length c0_1, undef, undef, .pointer (some ⟨gb, 0, none⟩), .slice A0_0 l0_0.length c0_0, .int .i64 (l0_0.length : Int), .int .i64 ((l0_0.length : Int) + 1), v14, .pointer (some ⟨gb, 0, none⟩), .slice A0_0 l0_0.length c0_0, .int .i64 (l0_0.length : Int), undef, undef, undef], defers := [] }) (by show Act.put _ (some 14) _ = _; simp only [Act.put, List.setIfInBounds_toArray, List.set_cons_zero, List.set_cons_succ]) ?_
  (try simp only [List.setIfInBounds_toArray, List.set_cons_zero, List.set_cons_succ])
  exact h_11 v14 W2 (below_then HB HB.size hb) BK2 (Kd.R_lower ho HB.size)
 case a15 =>
  refine Kd.R_make_step (Kd.int .i64) (w0 := W) W.heap.size 3 rfl (N := 18) rfl 22 _ _ rfl (l0_0.length : Int) rfl rfl Try.underlying22 (.int .i64 0) 8 info3 rfl (by decide) (by omega) (0 : Int) (ok := fun _ => True) (okp := fun _ => True) rfl (fun _ hk => hk) trivial (by omega) (by omega) (Go.RowKit.Below.refl _ _) (Nat.le_refl _) ?_
  intro v18 W2 ho hb hg_ hn_
  rw [Int.toNat_natCast] at ho
  have BK2 := blk_below BK hb
  refine hK.out _ _ ⟨(blk_cell BK2 0).trans rfl, (blk_cell BK2 1).trans rfl⟩ (fun _ => ?_)
  refine norm_ (a' := { tmps := #[.agg #[.slice A0_0 l0_0.length c0_0, .slice A0_1 l0_1.length c0_1], .pointer (some ⟨gb, 0, none⟩), .pointer none, .pointer (some ⟨gb, 0, none⟩), .slice A0_0 l0_0.length c0_0, undef, .pointer (some ⟨gb, 1, none⟩), .slice A0_1 l0_1.length c0_1, undef, undef, .pointer (some ⟨gb, 0, none⟩), .slice A0_0 l0_0.length c0_0, .int .i64 (l0_0.length : Int), .int .i64 ((l0_0.length : Int) + 1), undef, .pointer (some ⟨gb, 0, none⟩), .slice A0_0 l0_0.length c0_0, .int .i64 (l0_0.length : Int), v18, undef, undef], defers := [] }) (by show Act.put _ (some 18) _ = _; simp only [Act.put, List.setIfInBounds_toArray, List.set_cons_zero, List.set_cons_succ]) ?_
  (try simp only [List.setIfInBounds_toArray, List.set_cons_zero, List.set_cons_succ])
  exact h_15 v18 W2 (below_then HB HB.size hb) BK2 (Kd.R_lower ho HB.size)
theorem passage_op16 : (opsOf Try.f40 1)[16]? = some { dst := some 19, op := Op.build 52 #[(0, Operand.tmp 9), (1, Operand.tmp 14), (2, Operand.tmp 18)], type := 52, pos := "l8_lock.go:45", after := #[{ on := 6, ground := Ground.data }, { on := 11, ground := Ground.data }, { on := 15, ground := Ground.data }], guard := none } := by kernel_rfl
theorem passage_op17 : (opsOf Try.f40 1)[17]? = some { dst := some 20, op := Op.box 52 (Operand.tmp 19), type := 53, pos := "l8_lock.go:45", after := #[{ on := 16, ground := Ground.data }], guard := none } := by kernel_rfl
theorem passage_op18 : (opsOf Try.f40 1)[18]? = some { dst := some 2, op := Op.assign (Operand.tmp 20), type := 53, pos := "l8_lock.go:45", after := #[{ on := 17, ground := Ground.data }, { on := 5, ground := Ground.chain }, { on := 0, ground := Ground.phase }, { on := 1, ground := Ground.phase }, { on := 2, ground := Ground.phase }, { on := 3, ground := Ground.phase }, { on := 4, ground := Ground.phase }, { on := 5, ground := Ground.phase }, { on := 6, ground := Ground.phase }, { on := 7, ground := Ground.phase }, { on := 8, ground := Ground.phase }, { on := 9, ground := Ground.phase }, { on := 10, ground := Ground.phase }, { on := 11, ground := Ground.phase }, { on := 12, ground := Ground.phase }, { on := 13, ground := Ground.phase }, { on := 14, ground := Ground.phase }, { on := 15, ground := Ground.phase }, { on := 16, ground := Ground.phase }, { on := 17, ground := Ground.phase }], guard := none } := by kernel_rfl
theorem hw_new (w : World) (o : Obj) : (w.alloc o).heap[w.heap.size]? = some o := by unfold World.alloc; exact Array.getElem?_push_size
set_option maxHeartbeats 4000000 in
set_option maxRecDepth 100000 in
theorem impl_passageOf.calls (A0_0 : Option Addr) (c0_0 : Nat) (l0_0 : List Int) (A0_1 : Option Addr) (c0_1 : Nat) (l0_1 : List Bool) (w : World) (hr0 : Kd.C (Kd.int .i64) w A0_0 l0_0.length l0_0) (hc0 : l0_0.length ≤ c0_0) (hr1 : Kd.C Kd.bool w A0_1 l0_1.length l0_1) (hc1 : l0_1.length ≤ c0_1) (hl0 : l0_0.length ≤ 1000) (hl1 : l0_1.length ≤ 1000) :
  Calls Try.prog 40 #[.agg #[.slice A0_0 l0_0.length c0_0, .slice A0_1 l0_1.length c0_1]] w fun e w' => ∃ (g : Nat) (v5 v8 v14 v18 : Value), e = .returned (.pointer (some ⟨g, 0, none⟩)) ∧ w.heap.size ≤ g ∧ w'.heap[g]? = some (.cells #[v5, v8, v14, v18] 52 (0, 0)) ∧ Go.RowKit.Below w.heap.size w w' ∧ Kd.R (Kd.int .i64) 3 w' w.heap.size (fun _ => True) v5 l0_0 ∧ Kd.R Kd.bool 4 w' w.heap.size (fun _ => True) v8 l0_1 ∧ Kd.R (Kd.int .i64) 3 w' w.heap.size (fun _ => True) v14 (List.replicate (l0_0.length + 1) (0 : Int)) ∧ Kd.R (Kd.int .i64) 3 w' w.heap.size (fun _ => True) v18 (List.replicate l0_0.length (0 : Int)) ∧ (∀ k, v5.ownBlock = some k → v14.ownBlock ≠ some k) ∧ (∀ k, v5.ownBlock = some k → v18.ownBlock ≠ some k) ∧ (∀ k, v14.ownBlock = some k → v18.ownBlock ≠ some k) := by
 have HB := Aside0.mk (below_alloc (Go.RowKit.Below.refl w.heap.size w) (.cells #[.slice A0_0 l0_0.length c0_0, .slice A0_1 l0_1.length c0_1] 29))
 have BK := Aside0.mk (hw_new w (.cells #[.slice A0_0 l0_0.length c0_0, .slice A0_1 l0_1.length c0_1] 29))
 have e1 : wrap64 ((l0_0.length : Int) + 1) = (l0_0.length : Int) + 1 := by unfold wrap64; omega
 have hp := Aside0.mk (fun Q hQ hfin => passage_region A0_0 c0_0 l0_0 A0_1 c0_1 l0_1 w.heap.size w Q hQ hr0 hc0 hr1 hc1 hl0 hl1 hfin ((w.alloc (.cells #[.slice A0_0 l0_0.length c0_0, .slice A0_1 l0_1.length c0_1] 29)).drew) (below_drew1 HB.out) (blk_drew BK.out))
 clear hr0 hr1 hc0 hc1 hl0 hl1
 go_enter Try.func40, Try.ntmps40
 go_wp2
 refine start_ (n := 19) (S := fun w' => w'.cell? ⟨w.heap.size, 0, none⟩ = some (.slice A0_0 l0_0.length c0_0) ∧ w'.cell? ⟨w.heap.size, 1, none⟩ = some (.slice A0_1 l0_1.length c0_1)) (ds := []) #[false, false, false, false, false, false, false, false, false, false, false, false, false, false, false, false, false, false, false] (by kernel_rfl) rfl rfl ⟨(blk_cell BK.out 0).trans rfl, (blk_cell BK.out 1).trans rfl⟩ (fun hHeld => ?_)
 refine pure_ (i := 0) (N := some 3) (v := ?_) (a' := ?_) #[true, false, false, false, false, false, false, false, false, false, false, false, false, false, false, false, false, false, false] rfl rfl (by kernel_rfl) (fun _ _ _ h => h) (Or.inl ⟨by rfl, ?_⟩) ?_ ?_
 rotate_left
 ·intro w'
  go_simp
  with_reducible rfl
 rotate_left
 ·simp only [Act.put, List.setIfInBounds_toArray, List.set_cons_zero, List.set_cons_succ, i64_w, i32_w]
  rfl
 refine take_ (i := 1) (N := some 4) (v := ?_) (a' := ?_) #[true, true, false, false, false, false, false, false, false, false, false, false, false, false, false, false, false, false, false] rfl rfl (by kernel_rfl) (fun _ _ _ h => h) (Or.inl ⟨by rfl, ?_⟩) hHeld ?_ ?_
 rotate_left
 ·rintro w' ⟨s0, s1⟩
  go_simp
  with_reducible rfl
 rotate_left
 ·simp only [Act.put, List.setIfInBounds_toArray, List.set_cons_zero, List.set_cons_succ, i64_w, i32_w]
  rfl
 refine pure_ (i := 3) (N := some 6) (v := ?_) (a' := ?_) #[true, true, false, true, false, false, false, false, false, false, false, false, false, false, false, false, false, false, false] rfl rfl (by kernel_rfl) (fun _ _ _ h => h) (Or.inl ⟨by rfl, ?_⟩) ?_ ?_
 rotate_left
 ·intro w'
  go_simp
  with_reducible rfl
 rotate_left
 ·simp only [Act.put, List.setIfInBounds_toArray, List.set_cons_zero, List.set_cons_succ, i64_w, i32_w]
  rfl
 refine take_ (i := 4) (N := some 7) (v := ?_) (a' := ?_) #[true, true, false, true, true, false, false, false, false, false, false, false, false, false, false, false, false, false, false] rfl rfl (by kernel_rfl) (fun _ _ _ h => h) (Or.inl ⟨by rfl, ?_⟩) hHeld ?_ ?_
 rotate_left
 ·rintro w' ⟨s0, s1⟩
  go_simp
  with_reducible rfl
 rotate_left
 ·simp only [Act.put, List.setIfInBounds_toArray, List.set_cons_zero, List.set_cons_succ, i64_w, i32_w]
  rfl
 refine pure_ (i := 7) (N := some 10) (v := ?_) (a' := ?_) #[true, true, false, true, true, false, false, true, false, false, false, false, false, false, false, false, false, false, false] rfl rfl (by kernel_rfl) (fun _ _ _ h => h) (Or.inl ⟨by rfl, ?_⟩) ?_ ?_
 rotate_left
 ·intro w'
  go_simp
  with_reducible rfl
 rotate_left
 ·simp only [Act.put, List.setIfInBounds_toArray, List.set_cons_zero, List.set_cons_succ, i64_w, i32_w]
  rfl
 refine take_ (i := 8) (N := some 11) (v := ?_) (a' := ?_) #[true, true, false, true, true, false, false, true, true, false, false, false, false, false, false, false, false, false, false] rfl rfl (by kernel_rfl) (fun _ _ _ h => h) (Or.inl ⟨by rfl, ?_⟩) hHeld ?_ ?_
 rotate_left
 ·rintro w' ⟨s0, s1⟩
  go_simp
  with_reducible rfl
 rotate_left
 ·simp only [Act.put, List.setIfInBounds_toArray, List.set_cons_zero, List.set_cons_succ, i64_w, i32_w]
  rfl
 refine pure_ (i := 9) (N := some 12) (v := ?_) (a' := ?_) #[true, true, false, true, true, false, false, true, true, true, false, false, false, false, false, false, false, false, false] rfl rfl (by kernel_rfl) (fun _ _ _ h => h) (Or.inl ⟨by rfl, ?_⟩) ?_ ?_
 rotate_left
 ·intro w'
  go_simp
  with_reducible rfl
 rotate_left
 ·simp only [Act.put, List.setIfInBounds_toArray, List.set_cons_zero, List.set_cons_succ, i64_w, i32_w]
  rfl
 refine pure_ (i := 10) (N := some 13) (v := ?_) (a' := ?_) #[true, true, false, true, true, false, false, true, true, true, true, false, false, false, false, false, false, false, false] rfl rfl (by kernel_rfl) (fun _ _ _ h => h) (Or.inl ⟨by rfl, ?_⟩) ?_ ?_
 rotate_left
 ·intro w'
  go_simp
  with_reducible rfl
 rotate_left
 ·simp only [Act.put, List.setIfInBounds_toArray, List.set_cons_zero, List.set_cons_succ, i64_w, i32_w]
  rfl
 refine pure_ (i := 12) (N := some 15) (v := ?_) (a' := ?_) #[true, true, false, true, true, false, false, true, true, true, true, false, true, false, false, false, false, false, false] rfl rfl (by kernel_rfl) (fun _ _ _ h => h) (Or.inl ⟨by rfl, ?_⟩) ?_ ?_
 rotate_left
 ·intro w'
  go_simp
  with_reducible rfl
 rotate_left
 ·simp only [Act.put, List.setIfInBounds_toArray, List.set_cons_zero, List.set_cons_succ, i64_w, i32_w]
  rfl
 refine take_ (i := 13) (N := some 16) (v := ?_) (a' := ?_) #[true, true, false, true, true, false, false, true, true, true, true, false, true, true, false, false, false, false, false] rfl rfl (by kernel_rfl) (fun _ _ _ h => h) (Or.inl ⟨by rfl, ?_⟩) hHeld ?_ ?_
 rotate_left
 ·rintro w' ⟨s0, s1⟩
  go_simp
  with_reducible rfl
 rotate_left
 ·simp only [Act.put, List.setIfInBounds_toArray, List.set_cons_zero, List.set_cons_succ, i64_w, i32_w]
  rfl
 refine pure_ (i := 14) (N := some 17) (v := ?_) (a' := ?_) #[true, true, false, true, true, false, false, true, true, true, true, false, true, true, true, false, false, false, false] rfl rfl (by kernel_rfl) (fun _ _ _ h => h) (Or.inl ⟨by rfl, ?_⟩) ?_ ?_
 rotate_left
 ·intro w'
  go_simp
  with_reducible rfl
 rotate_left
 ·simp only [Act.put, List.setIfInBounds_toArray, List.set_cons_zero, List.set_cons_succ, i64_w, i32_w]
  rfl
 rw [e1]
 refine hp.out _ ?hq ?hf
 case hq =>
  intro c a d v W h
  cases d <;> exact h
 clear hp HB BK
 intro v5 v8 v14 v18 W HB BK O5 O8 O14 O18 N5_14 N5_18 N14_18
 obtain ⟨Ao5, co5, eo5⟩ := Kd.R_slice O5
 obtain ⟨Ao8, co8, eo8⟩ := Kd.R_slice O8
 obtain ⟨Ao14, co14, eo14⟩ := Kd.R_slice O14
 obtain ⟨Ao18, co18, eo18⟩ := Kd.R_slice O18
 have hHeld := And.intro ((blk_cell BK 0).trans rfl) ((blk_cell BK 1).trans rfl)
 refine pure_ (i := 16) (N := some 19) (v := .agg #[v5, v8, v14, v18]) (a' := { tmps := #[.agg #[.slice A0_0 l0_0.length c0_0, .slice A0_1 l0_1.length c0_1], .pointer (some ⟨w.heap.size, 0, none⟩), .pointer none, .pointer (some ⟨w.heap.size, 0, none⟩), .slice A0_0 l0_0.length c0_0, v5, .pointer (some ⟨w.heap.size, 1, none⟩), .slice A0_1 l0_1.length c0_1, v8, .agg #[v5, v8], .pointer (some ⟨w.heap.size, 0, none⟩), .slice A0_0 l0_0.length c0_0, .int .i64 (l0_0.length : Int), .int .i64 ((l0_0.length : Int) + 1), v14, .pointer (some ⟨w.heap.size, 0, none⟩), .slice A0_0 l0_0.length c0_0, .int .i64 (l0_0.length : Int), v18, .agg #[v5, v8, v14, v18], undef], defers := [] }) #[true, true, true, true, true, true, true, true, true, true, true, true, true, true, true, true, true, false, false] passage_op16 rfl (by kernel_rfl) (fun _ _ _ h => h) (Or.inl ⟨by rfl, ?_⟩) (by simp only [Act.put, List.setIfInBounds_toArray, List.set_cons_zero, List.set_cons_succ]) ?_
 ·intro w'
  rw [eo5, eo8, eo14, eo18]
  go_simp
  first | done | rfl
 refine one_ (i := 17) (N := some 20) #[true, true, true, true, true, true, true, true, true, true, true, true, true, true, true, true, true, true, false] passage_op17 rfl (by kernel_rfl) (by decide) (fun K hK => ?_)
 refine value_ (v := .pointer (some ⟨W.heap.size, 0, none⟩)) (w1 := W.alloc (.cells #[v5, v8, v14, v18] 52)) rfl rfl ?_ ?_
 ·go_simp
  first | done | rfl
 refine hK.out _ _ ⟨(blk_cell (blk_alloc BK _) 0).trans rfl, (blk_cell (blk_alloc BK _) 1).trans rfl⟩ (fun _ => ?_)
 clear hK K
 refine norm_ (a' := { tmps := #[.agg #[.slice A0_0 l0_0.length c0_0, .slice A0_1 l0_1.length c0_1], .pointer (some ⟨w.heap.size, 0, none⟩), .pointer none, .pointer (some ⟨w.heap.size, 0, none⟩), .slice A0_0 l0_0.length c0_0, v5, .pointer (some ⟨w.heap.size, 1, none⟩), .slice A0_1 l0_1.length c0_1, v8, .agg #[v5, v8], .pointer (some ⟨w.heap.size, 0, none⟩), .slice A0_0 l0_0.length c0_0, .int .i64 (l0_0.length : Int), .int .i64 ((l0_0.length : Int) + 1), v14, .pointer (some ⟨w.heap.size, 0, none⟩), .slice A0_0 l0_0.length c0_0, .int .i64 (l0_0.length : Int), v18, .agg #[v5, v8, v14, v18], .pointer (some ⟨W.heap.size, 0, none⟩)], defers := [] }) (by show Act.put _ (some 20) _ = _; simp only [Act.put, List.setIfInBounds_toArray, List.set_cons_zero, List.set_cons_succ]) ?_
 refine pure_ (i := 18) (N := some 2) (v := .pointer (some ⟨W.heap.size, 0, none⟩)) (a' := { tmps := #[.agg #[.slice A0_0 l0_0.length c0_0, .slice A0_1 l0_1.length c0_1], .pointer (some ⟨w.heap.size, 0, none⟩), .pointer (some ⟨W.heap.size, 0, none⟩), .pointer (some ⟨w.heap.size, 0, none⟩), .slice A0_0 l0_0.length c0_0, v5, .pointer (some ⟨w.heap.size, 1, none⟩), .slice A0_1 l0_1.length c0_1, v8, .agg #[v5, v8], .pointer (some ⟨w.heap.size, 0, none⟩), .slice A0_0 l0_0.length c0_0, .int .i64 (l0_0.length : Int), .int .i64 ((l0_0.length : Int) + 1), v14, .pointer (some ⟨w.heap.size, 0, none⟩), .slice A0_0 l0_0.length c0_0, .int .i64 (l0_0.length : Int), v18, .agg #[v5, v8, v14, v18], .pointer (some ⟨W.heap.size, 0, none⟩)], defers := [] }) #[true, true, true, true, true, true, true, true, true, true, true, true, true, true, true, true, true, true, true] passage_op18 rfl (by kernel_rfl) (fun _ _ _ h => h) (Or.inl ⟨by rfl, ?_⟩) (by simp only [Act.put, List.setIfInBounds_toArray, List.set_cons_zero, List.set_cons_succ]) ?_
 ·intro w'
  go_simp
  first | done | rfl
 refine done_ (by kernel_rfl) ?_
 go_wp2
 go_ret
 refine ⟨W.heap.size, v5, v8, v14, v18, rfl, HB.size, hw_new _ _, below_alloc HB _, Kd.R_alloc O5 _, Kd.R_alloc O8 _, Kd.R_alloc O14 _, Kd.R_alloc O18 _, N5_14, N5_18, N14_18⟩

def flipL (b : List Bool) (n : Nat) : List Bool := (b.take n).map (fun x => !x) ++ b.drop n
theorem flipL_len (b : List Bool) (n : Nat) : (flipL b n).length = b.length := by
 unfold flipL
 rw [List.length_append, List.length_map, List.length_take, List.length_drop]
 omega
theorem flipL_step (b : List Bool) (n : Nat) (h : n < b.length) : (flipL b n).set n (!(rdOf false (flipL b n) (n : Int))) = flipL b (n + 1) := by
 have e1 : rdOf false (flipL b n) (n : Int) = b[n] := by
  unfold rdOf flipL
  rw [Int.toNat_natCast, List.getD_eq_getElem?_getD, List.getElem?_append_right (by rw [List.length_map, List.length_take]; omega)]
  simp [Nat.min_eq_left (Nat.le_of_lt h), h]
 have h2 : ((b.take n).map (fun x => !x)).length = n := by
  rw [List.length_map, List.length_take]
  omega
 have h3 : (b.take (n + 1)).map (fun x => !x) = (b.take n).map (fun x => !x) ++ [!b[n]] := by
  rw [List.take_add_one, List.getElem?_eq_getElem h, List.map_append]
  rfl
 rw [e1]
 unfold flipL
 rw [List.set_append_right _ _ (by omega), h2, Nat.sub_self, List.drop_eq_getElem_cons h, List.set_cons_zero, h3, List.append_assoc]
 rfl
theorem blockI {w : World} {base : Nat} {ok : Nat → Prop} {v : Value} {xs : List Int} (h : Kd.R (Kd.int .i64) 3 w base ok v xs) (h1 : 1 ≤ xs.length) : ∃ g cap cur, v = .slice (some ⟨g, 0, none⟩) xs.length cap ∧ base ≤ g ∧ w.heap[g]? = some (.cells cur 3 (0, 0)) := by
 obtain ⟨_, ⟨_, h0⟩ | ⟨g, cap, cur, hv, hg, hh, _⟩⟩ := Kd.own_of_R (enc := Value.int .i64) (h1 := fun _ => rfl) h
 ·omega
 ·exact ⟨g, cap, cur, hv, hg, hh⟩
theorem blockB {w : World} {base : Nat} {ok : Nat → Prop} {v : Value} {xs : List Bool} (h : Kd.R Kd.bool 4 w base ok v xs) (h1 : 1 ≤ xs.length) : ∃ g cap cur, v = .slice (some ⟨g, 0, none⟩) xs.length cap ∧ base ≤ g ∧ w.heap[g]? = some (.cells cur 4 (0, 0)) := by
 obtain ⟨_, ⟨_, h0⟩ | ⟨g, cap, cur, hv, hg, hh, _⟩⟩ := Kd.own_of_R (enc := Value.bool) (h1 := fun _ => rfl) h
 ·omega
 ·exact ⟨g, cap, cur, hv, hg, hh⟩
theorem okI {w : World} {base g n cap : Nat} {ok : Nat → Prop} {xs : List Int} (h : Kd.R (Kd.int .i64) 3 w base ok (.slice (some ⟨g, 0, none⟩) n cap) xs) : Kd.R (Kd.int .i64) 3 w base (fun k => k = g) (.slice (some ⟨g, 0, none⟩) n cap) xs :=
 Kd.R_of_own (enc := Value.int .i64) (h1 := fun _ => rfl) (Kd.own_of_R (enc := Value.int .i64) (h1 := fun _ => rfl) h) (fun k hk => by simp [Value.ownBlock] at hk; exact hk.symm)
theorem okB {w : World} {base g n cap : Nat} {ok : Nat → Prop} {xs : List Bool} (h : Kd.R Kd.bool 4 w base ok (.slice (some ⟨g, 0, none⟩) n cap) xs) : Kd.R Kd.bool 4 w base (fun k => k = g) (.slice (some ⟨g, 0, none⟩) n cap) xs :=
 Kd.R_of_own (enc := Value.bool) (h1 := fun _ => rfl) (Kd.own_of_R (enc := Value.bool) (h1 := fun _ => rfl) h) (fun k hk => by simp [Value.ownBlock] at hk; exact hk.symm)
theorem hw_new2 (w : World) (o p : Obj) : ((w.alloc o).alloc p).heap[w.heap.size]? = some o := blk_alloc (hw_new w o) p
theorem hw_new1 (w : World) (o p : Obj) : ((w.alloc o).alloc p).heap[w.heap.size + 1]? = some p := by have := hw_new (w.alloc o) p; rwa [World.size_alloc] at this
def impl_ReverseFlight.f (k : Nat) (l0_0 : List Int) (l0_1 : List Bool) : Option (List Int × List Bool × Bool) := (impl_IsFlight.f l0_0 l0_1).bind fun t => if t = true then (if 1 ≤ l0_0.length ∧ l0_0.length ≤ 1000 ∧ 1 ≤ l0_1.length ∧ l0_1.length ≤ 1000 then (slices_Reverse_int_int.f k l0_0).bind fun a => (slices_Reverse_bool_bool.f k l0_1).bind fun b => if b.length = l0_1.length then some (a, b.map (fun x => !x), true) else none else none) else some ([], [], false)
theorem impl_ReverseFlight.mono : ∀ a0 a1 k, LeO (impl_ReverseFlight.f k a0 a1) (impl_ReverseFlight.f (k + 1) a0 a1) := by
 intro a0 a1 k
 unfold impl_ReverseFlight.f
 exact LeO.bind (LeO.refl _) (fun _ => LeO.ite (LeO.ite (LeO.bind (slices_Reverse_int_int.mono _ _) (fun _ => LeO.bind (slices_Reverse_bool_bool.mono _ _) (fun _ => LeO.refl _))) (LeO.refl _)) (LeO.refl _))
set_option maxHeartbeats 4000000 in
set_option maxRecDepth 100000 in
theorem impl_ReverseFlight.calls (k : Nat) (A0_0 : Option Addr) (c0_0 : Nat) (l0_0 : List Int) (A0_1 : Option Addr) (c0_1 : Nat) (l0_1 : List Bool) (r1 : List Int) (r2 : List Bool) (r3 : Bool) (w : World) (hr0_0 : Kd.C (Kd.int .i64) w A0_0 l0_0.length l0_0) (hc0_0 : l0_0.length ≤ c0_0) (hr0_1 : Kd.C Kd.bool w A0_1 l0_1.length l0_1) (hc0_1 : l0_1.length ≤ c0_1) (h : impl_ReverseFlight.f k l0_0 l0_1 = some (r1, r2, r3)) :
  Calls Try.prog 18 #[.agg #[.slice A0_0 l0_0.length c0_0, .slice A0_1 l0_1.length c0_1]] w fun e w' => ∃ v0_ v1_ : Value, e = .returned (.tuple #[.agg #[v0_, v1_], .bool r3]) ∧ Kd.R (Kd.int .i64) 3 w' w.heap.size (fun _ => True) v0_ r1 ∧ Kd.R Kd.bool 4 w' w.heap.size (fun _ => True) v1_ r2 ∧ Below w.heap.size w w' := by
 have hu29 := Try.underlying29
 obtain ⟨t, hT, h⟩ := Option.bind_eq_some_iff.mp h
 have HA := Aside0.mk (below_alloc (below_alloc (Below.refl w.heap.size w) (.cells #[.slice A0_0 l0_0.length c0_0, .slice A0_1 l0_1.length c0_1] 29)) (.cells #[.slice none 0 0, .slice none 0 0] 29))
 have BK1 := Aside0.mk (hw_new2 w (.cells #[.slice A0_0 l0_0.length c0_0, .slice A0_1 l0_1.length c0_1] 29) (.cells #[.slice none 0 0, .slice none 0 0] 29))
 have BK2 := Aside0.mk (hw_new1 w (.cells #[.slice A0_0 l0_0.length c0_0, .slice A0_1 l0_1.length c0_1] 29) (.cells #[.slice none 0 0, .slice none 0 0] 29))
 have hT1 := Aside0.mk (fun (W : World) (hb : Below w.heap.size w W) => impl_IsFlight.calls A0_0 c0_0 l0_0 A0_1 c0_1 l0_1 t W (Kd.C_below hr0_0 hb) hc0_0 (Kd.C_below hr0_1 hb) hc0_1 hT)
 cases t with
 | false =>
  rw [if_neg (by decide)] at h
  simp only [Option.some.injEq, Prod.mk.injEq] at h
  obtain ⟨rfl, rfl, rfl⟩ := h
  clear hr0_0 hc0_0 hr0_1 hc0_1
  go_enter Try.func18, Try.ntmps18
  go_wp2_with (go_at_call 35; refine (hT1.out _ HA.out).mono ?_; rintro e w1 ⟨rfl, hb⟩; have BL2 := Aside0.mk (blk_below BK2.out hb); have HB := Aside0.mk (below_then HA.out HA.out.size hb); clear hb; have hc3 := (blk_cell BL2.out 0).trans rfl; have hc4 := (blk_cell BL2.out 1).trans rfl; have hf3 := blk_frozen BL2.out 0; have hf4 := blk_frozen BL2.out 1)
  refine bodyPost_ret (results_ct rfl _ _ (w.heap.size + 1) 29 #[.slice none 0 0, .slice none 0 0] (0, 0) _ rfl (blk_put (cs := #[.slice none 0 0, .slice none 0 0]) (blk_put (cs := #[.slice none 0 0, .slice none 0 0]) BL2.out 0 _ rfl) 1 _ rfl) Try.underlying29 rfl (by kernel_rfl)) rfl ?_
  exact ⟨_, _, rfl, Kd.R_nil _ _ _ _ _, Kd.R_nil _ _ _ _ _, below_set (below_set HB.out (Nat.le_succ _)) (Nat.le_succ _)⟩
 | true =>
  rw [if_pos rfl] at h
  by_cases hg : 1 ≤ l0_0.length ∧ l0_0.length ≤ 1000 ∧ 1 ≤ l0_1.length ∧ l0_1.length ≤ 1000
  ·rw [if_pos hg] at h
   obtain ⟨a, hA, h⟩ := Option.bind_eq_some_iff.mp h
   obtain ⟨b, hBo, h⟩ := Option.bind_eq_some_iff.mp h
   by_cases hbl : b.length = l0_1.length
   ·rw [if_pos hbl] at h
    simp only [Option.some.injEq, Prod.mk.injEq] at h
    obtain ⟨rfl, rfl, rfl⟩ := h
    have HG := Aside0.mk hg
    have HBL := Aside0.mk hbl
    have hP := Aside0.mk (fun (W : World) (hb : Below w.heap.size w W) => impl_passageOf.calls A0_0 c0_0 l0_0 A0_1 c0_1 l0_1 W (Kd.C_below hr0_0 hb) hc0_0 (Kd.C_below hr0_1 hb) hc0_1 hg.2.1 hg.2.2.2)
    clear hr0_0 hc0_0 hr0_1 hc0_1 hg hbl
    go_enter Try.func18, Try.ntmps18
    go_wp2_with (first | (go_at_call 35; refine (hT1.out _ HA.out).mono ?_; rintro e w1 ⟨rfl, hb⟩; have BL1 := Aside0.mk (blk_below BK1.out hb); have BL2 := Aside0.mk (blk_below BK2.out hb); have HB := Aside0.mk (below_then HA.out HA.out.size hb); clear hb; have hc1 := (blk_cell BL1.out 0).trans rfl; have hc2 := (blk_cell BL1.out 1).trans rfl) | (go_at_call 40; refine (hP.out _ HB.out).mono ?_; rintro e w2 ⟨g, v5, v8, v14, v18, rfl, hg, hh, hb, o5, o8, _, _, n1, n2, _⟩; have BM2 := Aside0.mk (blk_below BL2.out hb); have GG := Aside0.mk hh; have HB2 := Aside0.mk (below_then HB.out HB.out.size hb); have O5 := Aside0.mk (Kd.R_lower o5 HB.out.size); have O8 := Aside0.mk (Kd.R_lower o8 HB.out.size); clear hb hg hh o5 o8 n1 n2 hc1 hc2; obtain ⟨g5, cp5, cu5, e5, hb5, hh5⟩ := blockI O5.out HG.out.1; subst e5; obtain ⟨g8, cp8, cu8, e8, hb8, hh8⟩ := blockB O8.out HG.out.2.2.1; subst e8; have H5 := Aside0.mk hh5; have H8 := Aside0.mk hh8; clear hb5 hh5 hb8 hh8; have N4 := Aside0.mk (show ¬ w2.heap.size = g5 from fun e => by have h_ := blk_lt H5.out; omega); have M4 := Aside0.mk (show ¬ w2.heap.size = g8 from fun e => by have h_ := blk_lt H8.out; omega); have N2 := Aside0.mk (blk_ne BM2.out H5.out (by decide)); have M2 := Aside0.mk (blk_ne BM2.out H8.out (by decide)); have N8 := Aside0.mk (blk_ne H8.out H5.out (by decide)); have hg1 := (blk_cell GG.out 0).trans rfl; have hg2 := (blk_cell GG.out 1).trans rfl) | (go_at_call 41; refine (slices_Reverse_int_int.calls k (fun k_ => k_ = g5) _ l0_0 a w _ (below_alloc HB2.out _) (okI (Kd.R_alloc O5.out _)) hA).mono ?_; rintro e w4 ⟨rfl, o5, hb, hk⟩; have P4 := Aside0.mk (blk_kept (hw_new w2 (.cells #[.slice (some ⟨g5, 0, none⟩) l0_0.length cp5, .slice (some ⟨g8, 0, none⟩) l0_1.length cp8] 29)) hk N4.out); have P2 := Aside0.mk (blk_kept (blk_alloc BM2.out (.cells #[.slice (some ⟨g5, 0, none⟩) l0_0.length cp5, .slice (some ⟨g8, 0, none⟩) l0_1.length cp8] 29)) hk N2.out); have Q8 := Aside0.mk (Kd.R_kept (okB (Kd.R_alloc O8.out (.cells #[.slice (some ⟨g5, 0, none⟩) l0_0.length cp5, .slice (some ⟨g8, 0, none⟩) l0_1.length cp8] 29))) hk (fun k h1 h2 => N8.out (by rw [← h1, h2]))); have Q5 := Aside0.mk (okI o5); have HB4 := Aside0.mk hb; clear o5 hb hk hg1 hg2; have hc5 := (blk_cell P4.out 0).trans rfl; have hc6 := (blk_cell P4.out 1).trans rfl) | (go_at_call 42; refine (slices_Reverse_bool_bool.calls k (fun k_ => k_ = g8) _ l0_1 b w _ HB4.out Q8.out hBo).mono ?_; rintro e w5 ⟨rfl, o8, hb, hk⟩; have R4 := Aside0.mk (blk_kept P4.out hk M4.out); have R2 := Aside0.mk (blk_kept P2.out hk M2.out); have S5 := Aside0.mk (Kd.R_kept Q5.out hk (fun k h1 h2 => N8.out (by rw [← h1, h2]))); have S8 := Aside0.mk (okB o8); have HB5 := Aside0.mk hb; clear o8 hb hk hc5 hc6; have hc7 := (blk_cell R4.out 0).trans rfl; have hc8 := (blk_cell R4.out 1).trans rfl))
    go_loopg [25] l0_1.length (fun gg v25 wr => ∃ i : Int, v25 = .int .i64 i ∧ Aside0 (0 ≤ i ∧ i ≤ l0_1.length) ∧ Aside0 (l0_1.length - i.toNat ≤ gg) ∧ Aside0 (Kd.R Kd.bool 4 wr w.heap.size (fun k => k = g8) (.slice (some ⟨g8, 0, none⟩) l0_1.length cp8) (flipL b i.toNat)) ∧ Aside0 (Kd.R (Kd.int .i64) 3 wr w.heap.size (fun k => k = g5) (.slice (some ⟨g5, 0, none⟩) l0_0.length cp5) a) ∧ Aside0 (wr.heap[w2.heap.size]? = some (.cells #[.slice (some ⟨g5, 0, none⟩) l0_0.length cp5, .slice (some ⟨g8, 0, none⟩) l0_1.length cp8] 29 (0, 0))) ∧ Aside0 (wr.heap[w.heap.size + 1]? = some (.cells #[.slice none 0 0, .slice none 0 0] 29 (0, 0))) ∧ Aside0 (Below w.heap.size w wr))
    case atStart => exact ⟨0, rfl, ⟨by omega⟩, ⟨by simp⟩, ⟨by simpa [flipL] using S8.out⟩, S5, R4, R2, HB5⟩
    case round =>
     clear S8 S5 R4 R2 HB5 hc7 hc8
     obtain ⟨i, rfl, HX, HGG, S8, S5, R4, R2, HB⟩ := hrel
     by_cases hlt : i < (l0_1.length : Int)
     ·have c1 : decide (i < (l0_1.length : Int)) = true := decide_eq_true hlt
      have HL := Aside0.mk hlt
      have q1 := eq_true HX.out.1
      have q2 := eq_true hlt
      have hlen := Aside0.mk (flipL_len b i.toNat)
      obtain ⟨hx, hy⟩ := Kd.R_celln (enc := Value.bool) (h1 := fun _ => rfl) (false) S8.out i HX.out.1 hlt
      have hc7 := (blk_cell R4.out 0).trans rfl
      have hc8 := (blk_cell R4.out 1).trans rfl
      clear hlt
      go_wp2
      go_roundg (l0_1.length - (i.toNat + 1))
      case measure => have := HGG.out; have := HX.out.1; have := HL.out; omega
      case rel =>
       have hw : wrap64 (i + 1) = i + 1 := by have := HX.out.1; have := HL.out; have := HG.out; unfold wrap64; omega
       have P := Kd.R_putg S8.out i (!(rdOf false (flipL b i.toNat) i))
       have e1 := flipL_step b i.toNat (by have := HX.out.1; have := HL.out; have := HBL.out; omega)
       rw [Int.toNat_of_nonneg HX.out.1] at e1
       rw [e1, show i.toNat + 1 = (i + 1).toNat by have := HX.out.1; omega] at P
       exact ⟨i + 1, by rw [hw], ⟨by have := HX.out.1; have := HL.out; omega⟩, ⟨by have := HX.out.1; omega⟩, ⟨okB P.1⟩, ⟨Kd.R_grown S5.out P.2 (fun k hk e => N8.out (by have h_ := Option.some.inj e; omega))⟩, ⟨blk_grown R4.out P.2 (fun e => M4.out (Option.some.inj e))⟩, ⟨blk_grown R2.out P.2 (fun e => M2.out (Option.some.inj e))⟩, ⟨below_set HB.out (Kd.R_base S8.out g8 rfl)⟩⟩
     ·have c1 : decide (i < (l0_1.length : Int)) = false := decide_eq_false hlt
      have hi : i.toNat = b.length := by have h1_ := HX.out; have h2_ := HBL.out; omega
      rw [hi] at S8
      have hfin : flipL b b.length = b.map (fun x => !x) := by simp [flipL]
      rw [hfin] at S8
      have hc7 := (blk_cell R4.out 0).trans rfl
      have hc8 := (blk_cell R4.out 1).trans rfl
      have hc3 := (blk_cell R2.out 0).trans rfl
      have hc4 := (blk_cell R2.out 1).trans rfl
      have hf3 := blk_frozen R2.out 0
      have hf4 := blk_frozen R2.out 1
      clear hlt
      go_wp2
      refine bodyPost_ret (results_ct rfl _ _ (w.heap.size + 1) 29 #[.slice (some ⟨g5, 0, none⟩) l0_0.length cp5, .slice (some ⟨g8, 0, none⟩) l0_1.length cp8] (0, 0) _ rfl (blk_put (blk_put (cs := #[.slice none 0 0, .slice none 0 0]) R2.out 0 _ rfl) 1 _ rfl) Try.underlying29 rfl (by kernel_rfl)) rfl ?_
      refine ⟨_, _, rfl, ?_, ?_, below_set (below_set HB.out (Nat.le_succ _)) (Nat.le_succ _)⟩
      ·exact Kd.R_mono (Kd.R_far (Kd.R_far S5.out (fun k hk e => N2.out (by rw [← hk]; exact e.symm)) _) (fun k hk e => N2.out (by rw [← hk]; exact e.symm)) _) (fun _ _ => trivial)
      ·exact Kd.R_mono (Kd.R_far (Kd.R_far S8.out (fun k hk e => M2.out (by rw [← hk]; exact e.symm)) _) (fun k hk e => M2.out (by rw [← hk]; exact e.symm)) _) (fun _ _ => trivial)
   ·rw [if_neg hbl] at h
    exact absurd h (by simp)
  ·rw [if_neg hg] at h
   exact absurd h (by simp)

/-! ### laws_markIntS: function 43 -/
def laws_markIntS.l0 : Nat → List Int → Int → Int → Option (Int × List Int)
  | 0, _, _, _ => none
  | k + 1, x0, x1, x5 => if x5 < (x0.length : Int) then (if 0 ≤ x5 then (laws_markIntS.l0 k (x0.set (x5 : Int).toNat x1) (wrap64 (x1 + 1)) (wrap64 (x5 + 1))) else (none)) else (some (x1, x0))
def laws_markIntS.f (k : Nat) (l0 : List Int) (a1 : Int) : Option (Int × List Int) := laws_markIntS.l0 k l0 a1 0
theorem laws_markIntS.mono_l : ∀ k, (∀ y0 y1 y2, LeO (laws_markIntS.l0 k y0 y1 y2) (laws_markIntS.l0 (k + 1) y0 y1 y2))
 | 0 => fun _ _ _ r h => by simp [laws_markIntS.l0] at h
 | k + 1 => by
  have ih0 := laws_markIntS.mono_l k
  ·intro y0 y1 y2
   unfold laws_markIntS.l0
   repeat' first
   | (with_reducible exact ih0 _ _ _)
   | (with_reducible exact LeO.refl _)
   | (with_reducible exact LeO.none _)
   | (with_reducible refine LeO.ite ?_ ?_)
   | (with_reducible refine LeO.bind ?_ (fun _ => ?_))
   | exact ih0 _ _ _
   | exact LeO.none _
   | refine LeO.ite ?_ ?_
   | refine LeO.bind ?_ (fun _ => ?_)
theorem laws_markIntS.mono : ∀ a0 a1 k, LeO (laws_markIntS.f k a0 a1) (laws_markIntS.f (k + 1) a0 a1) := by
 intro a0 a1 k
 have ih0 := laws_markIntS.mono_l k
 unfold laws_markIntS.f
 repeat' first
   | (with_reducible exact ih0 _ _ _)
   | (with_reducible exact LeO.refl _)
   | (with_reducible exact LeO.none _)
   | (with_reducible refine LeO.ite ?_ ?_)
   | (with_reducible refine LeO.bind ?_ (fun _ => ?_))
   | exact ih0 _ _ _
   | exact LeO.none _
   | refine LeO.ite ?_ ?_
   | refine LeO.bind ?_ (fun _ => ?_)
set_option maxHeartbeats 8000000 in
set_option maxRecDepth 100000 in
theorem laws_markIntS.calls (k : Nat) (P0_ : Nat → Prop) (u9000_ : Value) (l0 : List Int) (a1 : Int) (r1 : Int) (r2 : List Int) (w0 w : World) (hB : Below w0.heap.size w0 w) (ho0 : Kd.R (Kd.int .i64) 3 w w0.heap.size P0_ u9000_ l0) (h : laws_markIntS.f k l0 a1 = some (r1, r2)) :
  Calls Try.prog 43 #[u9000_, .int .i64 a1] w fun e w' => e = .returned (.int .i64 r1) ∧ Kd.R (Kd.int .i64) 3 w' w0.heap.size (fun k_ => (P0_ k_ ∨ w.heap.size ≤ k_)) u9000_ r2 ∧ Below w0.heap.size w0 w' ∧ Kept w w' (fun k_ => P0_ k_) := by
 have HO0 := Aside0.mk (show Kd.R (Kd.int .i64) 3 w w0.heap.size (fun k_ => (P0_ k_ ∨ w.heap.size ≤ k_)) u9000_ l0 from Kd.R_mono ho0 (fun k_ hk => (.inl hk)))
 have HK := Aside0.mk (Kept.refl w (fun k_ => P0_ k_))
 have HW0 := Aside0.mk hB.size
 have HB := Aside0.mk hB
 clear hB
 have H : (laws_markIntS.l0 k l0 a1 0) = some (r1, r2) := h
 clear h
 have H' := Aside0.mk H
 clear H
 go_enter Try.func43, Try.ntmps43
 go_wp2
 go_loopg [1, 5] k (fun kq v1 v5 w' => ∃ (x0_1 : List Int) (x1_1 : Int) (x5_1 : Int), v1 = .int .i64 x1_1 ∧ v5 = .int .i64 x5_1 ∧ Aside0 (laws_markIntS.l0 kq x0_1 x1_1 x5_1 = some (r1, r2)) ∧ Aside0 (kq ≤ k) ∧ Aside0 (Kd.R (Kd.int .i64) 3 w' w0.heap.size (fun k_ => (P0_ k_ ∨ w.heap.size ≤ k_)) u9000_ x0_1) ∧ Aside0 (Kept w w' (fun k_ => P0_ k_)) ∧ Aside0 (Below w0.heap.size w0 w'))
 case atStart => exact ⟨(l0), (a1), (0), (by first | rfl | (simp; done) | (simp [*]; done)), (by first | rfl | (simp; done) | (simp [*]; done)), H', ⟨Nat.le_refl _⟩, ⟨xr HO0.out⟩, ⟨by repeat (first | (with_reducible first | exact HK.out | apply Kept.alloc | apply Kept.drewN | apply Kept.drew) | exact HK.out)⟩, ⟨xs HB.out⟩⟩
 case round =>
  clear H'
  try clear p2
  obtain ⟨x0_1, x1_1, x5_1, rfl, rfl, HA, HK1, HO_0, HK, HB⟩ := hrel
  cases gk with
  | zero => exact absurd HA.out (by simp [laws_markIntS.l0])
  | succ k1 =>
   have H := HA.out
   clear HA
   simp only [laws_markIntS.l0] at H
   by_cases c3 : x5_1 < (x0_1.length : Int)
   ·rw [if_pos c3] at H
    have c3b0 : decide (x5_1 < (x0_1.length : Int)) = true := decide_eq_true c3
    clear c3
    by_cases c4 : 0 ≤ x5_1
    ·rw [if_pos c4] at H
     have c4b0 : decide (0 ≤ x5_1) = true := decide_eq_true c4
     clear c4
     obtain ⟨y173, hy173⟩ : ∃ y_ : List Int, y_ = (x0_1.set (x5_1 : Int).toNat x1_1) := ⟨_, rfl⟩
     replace H : (laws_markIntS.l0 k1 y173 (wrap64 (x1_1 + 1)) (wrap64 (x5_1 + 1))) = some (r1, r2) := by first | (rw [hy173]; with_reducible exact H) | (have H2_ := (Option.bind_some _ _).symm.trans H; rw [hy173]; with_reducible exact H2_) | (have H2_ := (Option.bind_some _ _).symm.trans H; with_reducible exact H2_) | with_reducible exact H | (rw [hy173]; exact H) | exact H
     have Ny173 := Aside0.mk hy173
     clear hy173
     have H' := Aside0.mk H
     clear H
     obtain ⟨Ao6, co6, eo6⟩ := Kd.R_slice HO_0.out
     subst eo6
     have p5 : 0 ≤ (x5_1 : Int) := of_decide_eq_true (by first | (with_reducible assumption) | assumption)
     have q5 : (x5_1 : Int) < ((x0_1.length : Int) : Int) := of_decide_eq_true (by first | (with_reducible assumption) | assumption)
     obtain ⟨go5, co5, eo5, gb5, gl5, cl5, HG5⟩ := Kd.R_form HO_0.out (by omega)
     (first | cases eo5 | (injection eo5 with ea_ en_ ec_; (first | subst ea_ | (injection ea_ with ea_; subst ea_)); subst ec_; clear en_))
     have GB5 := Aside0.mk gb5
     have GG5 := Aside0.mk HG5
     clear gb5 gl5 HG5
     have HMgo5 := Aside0.mk (show (P0_ go5 ∨ w.heap.size ≤ go5) from (HO_0.out.1 _ rfl))
     obtain ⟨hx5_0, hf5_0⟩ := Kd.R_celln 0 HO_0.out (x5_1 : Int) p5 q5
     replace p5 := eq_true p5
     replace q5 := eq_true q5
     have HP7 := Kd.R_putg HO_0.out (x5_1 : Int) x1_1
     go_wp2_with (first | ((with_reducible refine gate_store (t := 3) (p := 15) rfl ?_); refine store_event (t := 3) (p := 15) (v := ?vo_w8) (w1 := (wr.setCell ⟨go5, (x5_1 : Int).toNat, none⟩ (.int .i64 x1_1))) ?hg ?ho ?hn ?hr ?_; (case ho => rfl); (case hg => rfl); (case hn => rfl); (case hr => first | (go_simp; done) | (go_simp; rfl)); intro w8 hw; have hg : wr.grownBy w8 (some go5) := (by rw [hw]; exact HP7.2); have hp_ : Kd.R (Kd.int .i64) 3 w8 w0.heap.size (fun k_ => (P0_ k_ ∨ w.heap.size ≤ k_)) (.slice (some ⟨go5, 0, none⟩) x0_1.length co6) y173 := (by rw [hw, Ny173.out]; exact HP7.1); clear HP7; replace HB := Aside0.mk ((by rw [hw]; exact below_set (HB.out) GB5.out : Below w0.heap.size w0 w8)); replace HK := Aside0.mk (Kept.of_grown (S := (fun k_ => P0_ k_)) hg (by repeat (first | (with_reducible first | exact HK.out | apply Kept.alloc | apply Kept.drewN | apply Kept.drew) | exact HK.out)) (fun k_ e_ => (HO_0.out.1 k_ e_))); replace HO_0 := Aside0.mk (hp_); clear hg hw hp_))
     go_roundg k1
     case measure => have := HK1.out; omega
     case rel => exact ⟨(y173), (wrap64 (x1_1 + 1)), (wrap64 (x5_1 + 1)), (by first | rfl | (simp; done) | (simp [*]; done)), (by first | rfl | (simp; done) | (simp [*]; done)), H', ⟨by have := HK1.out; omega⟩, ⟨xr HO_0.out⟩, ⟨by repeat (first | (with_reducible first | exact HK.out | apply Kept.alloc | apply Kept.drewN | apply Kept.drew) | exact HK.out)⟩, ⟨xs HB.out⟩⟩
    ·rw [if_neg c4] at H
     exact absurd H (by simp)
   ·rw [if_neg c3] at H
    have c3b0 : decide (x5_1 < (x0_1.length : Int)) = false := decide_eq_false c3
    clear c3
    simp only [Option.some.injEq, Prod.mk.injEq] at H
    obtain ⟨rfl, rfl⟩ := H
    obtain ⟨Ao9, co9, eo9⟩ := Kd.R_slice HO_0.out
    subst eo9
    go_wp2
    go_ret
    exact ⟨by first | rfl | (simp [errW_none, errW_some] <;> rfl) | (simp [*, errW_none, errW_some] <;> rfl), by (with_reducible repeat (first | apply Kd.R_alloc | apply Kd.R_drewN | apply Kd.R_drew)); exact HO_0.out, by repeat (first | (with_reducible first | exact HB.out | apply below_alloc | apply pw_below_drewN | apply below_drew1) | exact HB.out), by repeat (first | (with_reducible first | exact HK.out | apply Kept.alloc | apply Kept.drewN | apply Kept.drew) | exact HK.out)⟩

/-! ### laws_markBoolS: function 44 -/
def laws_markBoolS.l0 : Nat → List Bool → Int → Int → Option (Int × List Bool)
  | 0, _, _, _ => none
  | k + 1, x0, x1, x5 => if x5 < (x0.length : Int) then (if 0 ≤ x5 then (laws_markBoolS.l0 k (x0.set (x5 : Int).toNat ((Int.tmod x1 3) == 0)) (wrap64 (x1 + 1)) (wrap64 (x5 + 1))) else (none)) else (some (x1, x0))
def laws_markBoolS.f (k : Nat) (l0 : List Bool) (a1 : Int) : Option (Int × List Bool) := laws_markBoolS.l0 k l0 a1 0
theorem laws_markBoolS.mono_l : ∀ k, (∀ y0 y1 y2, LeO (laws_markBoolS.l0 k y0 y1 y2) (laws_markBoolS.l0 (k + 1) y0 y1 y2))
 | 0 => fun _ _ _ r h => by simp [laws_markBoolS.l0] at h
 | k + 1 => by
  have ih0 := laws_markBoolS.mono_l k
  ·intro y0 y1 y2
   unfold laws_markBoolS.l0
   repeat' first
   | (with_reducible exact ih0 _ _ _)
   | (with_reducible exact LeO.refl _)
   | (with_reducible exact LeO.none _)
   | (with_reducible refine LeO.ite ?_ ?_)
   | (with_reducible refine LeO.bind ?_ (fun _ => ?_))
   | exact ih0 _ _ _
   | exact LeO.none _
   | refine LeO.ite ?_ ?_
   | refine LeO.bind ?_ (fun _ => ?_)
theorem laws_markBoolS.mono : ∀ a0 a1 k, LeO (laws_markBoolS.f k a0 a1) (laws_markBoolS.f (k + 1) a0 a1) := by
 intro a0 a1 k
 have ih0 := laws_markBoolS.mono_l k
 unfold laws_markBoolS.f
 repeat' first
   | (with_reducible exact ih0 _ _ _)
   | (with_reducible exact LeO.refl _)
   | (with_reducible exact LeO.none _)
   | (with_reducible refine LeO.ite ?_ ?_)
   | (with_reducible refine LeO.bind ?_ (fun _ => ?_))
   | exact ih0 _ _ _
   | exact LeO.none _
   | refine LeO.ite ?_ ?_
   | refine LeO.bind ?_ (fun _ => ?_)
set_option maxHeartbeats 8000000 in
set_option maxRecDepth 100000 in
theorem laws_markBoolS.calls (k : Nat) (P0_ : Nat → Prop) (u9000_ : Value) (l0 : List Bool) (a1 : Int) (r1 : Int) (r2 : List Bool) (w0 w : World) (hB : Below w0.heap.size w0 w) (ho0 : Kd.R Kd.bool 4 w w0.heap.size P0_ u9000_ l0) (h : laws_markBoolS.f k l0 a1 = some (r1, r2)) :
  Calls Try.prog 44 #[u9000_, .int .i64 a1] w fun e w' => e = .returned (.int .i64 r1) ∧ Kd.R Kd.bool 4 w' w0.heap.size (fun k_ => (P0_ k_ ∨ w.heap.size ≤ k_)) u9000_ r2 ∧ Below w0.heap.size w0 w' ∧ Kept w w' (fun k_ => P0_ k_) := by
 have HO0 := Aside0.mk (show Kd.R Kd.bool 4 w w0.heap.size (fun k_ => (P0_ k_ ∨ w.heap.size ≤ k_)) u9000_ l0 from Kd.R_mono ho0 (fun k_ hk => (.inl hk)))
 have HK := Aside0.mk (Kept.refl w (fun k_ => P0_ k_))
 have HW0 := Aside0.mk hB.size
 have HB := Aside0.mk hB
 clear hB
 have H : (laws_markBoolS.l0 k l0 a1 0) = some (r1, r2) := h
 clear h
 have H' := Aside0.mk H
 clear H
 go_enter Try.func44, Try.ntmps44
 go_wp2
 go_loopg [1, 5] k (fun kq v1 v5 w' => ∃ (x0_1 : List Bool) (x1_1 : Int) (x5_1 : Int), v1 = .int .i64 x1_1 ∧ v5 = .int .i64 x5_1 ∧ Aside0 (laws_markBoolS.l0 kq x0_1 x1_1 x5_1 = some (r1, r2)) ∧ Aside0 (kq ≤ k) ∧ Aside0 (Kd.R Kd.bool 4 w' w0.heap.size (fun k_ => (P0_ k_ ∨ w.heap.size ≤ k_)) u9000_ x0_1) ∧ Aside0 (Kept w w' (fun k_ => P0_ k_)) ∧ Aside0 (Below w0.heap.size w0 w'))
 case atStart => exact ⟨(l0), (a1), (0), (by first | rfl | (simp; done) | (simp [*]; done)), (by first | rfl | (simp; done) | (simp [*]; done)), H', ⟨Nat.le_refl _⟩, ⟨xr HO0.out⟩, ⟨by repeat (first | (with_reducible first | exact HK.out | apply Kept.alloc | apply Kept.drewN | apply Kept.drew) | exact HK.out)⟩, ⟨xs HB.out⟩⟩
 case round =>
  clear H'
  try clear p2
  obtain ⟨x0_1, x1_1, x5_1, rfl, rfl, HA, HK1, HO_0, HK, HB⟩ := hrel
  cases gk with
  | zero => exact absurd HA.out (by simp [laws_markBoolS.l0])
  | succ k1 =>
   have H := HA.out
   clear HA
   simp only [laws_markBoolS.l0] at H
   by_cases c3 : x5_1 < (x0_1.length : Int)
   ·rw [if_pos c3] at H
    have c3b0 : decide (x5_1 < (x0_1.length : Int)) = true := decide_eq_true c3
    clear c3
    by_cases c4 : 0 ≤ x5_1
    ·rw [if_pos c4] at H
     have c4b0 : decide (0 ≤ x5_1) = true := decide_eq_true c4
     clear c4
     obtain ⟨y174, hy174⟩ : ∃ y_ : List Bool, y_ = (x0_1.set (x5_1 : Int).toNat ((Int.tmod x1_1 3) == 0)) := ⟨_, rfl⟩
     replace H : (laws_markBoolS.l0 k1 y174 (wrap64 (x1_1 + 1)) (wrap64 (x5_1 + 1))) = some (r1, r2) := by first | (rw [hy174]; with_reducible exact H) | (have H2_ := (Option.bind_some _ _).symm.trans H; rw [hy174]; with_reducible exact H2_) | (have H2_ := (Option.bind_some _ _).symm.trans H; with_reducible exact H2_) | with_reducible exact H | (rw [hy174]; exact H) | exact H
     have Ny174 := Aside0.mk hy174
     clear hy174
     have H' := Aside0.mk H
     clear H
     obtain ⟨Ao6, co6, eo6⟩ := Kd.R_slice HO_0.out
     subst eo6
     have p5 : 0 ≤ (x5_1 : Int) := of_decide_eq_true (by first | (with_reducible assumption) | assumption)
     have q5 : (x5_1 : Int) < ((x0_1.length : Int) : Int) := of_decide_eq_true (by first | (with_reducible assumption) | assumption)
     obtain ⟨go5, co5, eo5, gb5, gl5, cl5, HG5⟩ := Kd.R_form HO_0.out (by omega)
     (first | cases eo5 | (injection eo5 with ea_ en_ ec_; (first | subst ea_ | (injection ea_ with ea_; subst ea_)); subst ec_; clear en_))
     have GB5 := Aside0.mk gb5
     have GG5 := Aside0.mk HG5
     clear gb5 gl5 HG5
     have HMgo5 := Aside0.mk (show (P0_ go5 ∨ w.heap.size ≤ go5) from (HO_0.out.1 _ rfl))
     obtain ⟨hx5_0, hf5_0⟩ := Kd.R_celln false HO_0.out (x5_1 : Int) p5 q5
     replace p5 := eq_true p5
     replace q5 := eq_true q5
     have HP7 := Kd.R_putg HO_0.out (x5_1 : Int) ((Int.tmod x1_1 3) == 0)
     go_wp2_with (first | ((with_reducible refine gate_store (t := 4) (p := 17) rfl ?_); refine store_event (t := 4) (p := 17) (v := ?vo_w8) (w1 := (wr.setCell ⟨go5, (x5_1 : Int).toNat, none⟩ (.bool ((Int.tmod x1_1 3) == 0)))) ?hg ?ho ?hn ?hr ?_; (case ho => rfl); (case hg => rfl); (case hn => rfl); (case hr => first | (go_simp; done) | (go_simp; rfl)); intro w8 hw; have hg : wr.grownBy w8 (some go5) := (by rw [hw]; exact HP7.2); have hp_ : Kd.R Kd.bool 4 w8 w0.heap.size (fun k_ => (P0_ k_ ∨ w.heap.size ≤ k_)) (.slice (some ⟨go5, 0, none⟩) x0_1.length co6) y174 := (by rw [hw, Ny174.out]; exact HP7.1); clear HP7; replace HB := Aside0.mk ((by rw [hw]; exact below_set (HB.out) GB5.out : Below w0.heap.size w0 w8)); replace HK := Aside0.mk (Kept.of_grown (S := (fun k_ => P0_ k_)) hg (by repeat (first | (with_reducible first | exact HK.out | apply Kept.alloc | apply Kept.drewN | apply Kept.drew) | exact HK.out)) (fun k_ e_ => (HO_0.out.1 k_ e_))); replace HO_0 := Aside0.mk (hp_); clear hg hw hp_))
     go_roundg k1
     case measure => have := HK1.out; omega
     case rel => exact ⟨(y174), (wrap64 (x1_1 + 1)), (wrap64 (x5_1 + 1)), (by first | rfl | (simp; done) | (simp [*]; done)), (by first | rfl | (simp; done) | (simp [*]; done)), H', ⟨by have := HK1.out; omega⟩, ⟨xr HO_0.out⟩, ⟨by repeat (first | (with_reducible first | exact HK.out | apply Kept.alloc | apply Kept.drewN | apply Kept.drew) | exact HK.out)⟩, ⟨xs HB.out⟩⟩
    ·rw [if_neg c4] at H
     exact absurd H (by simp)
   ·rw [if_neg c3] at H
    have c3b0 : decide (x5_1 < (x0_1.length : Int)) = false := decide_eq_false c3
    clear c3
    simp only [Option.some.injEq, Prod.mk.injEq] at H
    obtain ⟨rfl, rfl⟩ := H
    obtain ⟨Ao9, co9, eo9⟩ := Kd.R_slice HO_0.out
    subst eo9
    go_wp2
    go_ret
    exact ⟨by first | rfl | (simp [errW_none, errW_some] <;> rfl) | (simp [*, errW_none, errW_some] <;> rfl), by (with_reducible repeat (first | apply Kd.R_alloc | apply Kd.R_drewN | apply Kd.R_drew)); exact HO_0.out, by repeat (first | (with_reducible first | exact HB.out | apply below_alloc | apply pw_below_drewN | apply below_drew1) | exact HB.out), by repeat (first | (with_reducible first | exact HK.out | apply Kept.alloc | apply Kept.drewN | apply Kept.drew) | exact HK.out)⟩

/-! ### laws_markFlight: function 19 -/
def laws_markFlight.f (k : Nat) (l0_0 : List Int) (l0_1 : List Bool) (a1 : Int) : Option (Int × List Int × List Bool) := (laws_markIntS.f k l0_0 a1).bind fun bt176 => ((laws_markBoolS.f k l0_1 bt176.1).bind fun bt178 => (some (bt178.1, bt176.2, bt178.2)))
theorem laws_markFlight.mono : ∀ a0 a1 a2 k, LeO (laws_markFlight.f k a0 a1 a2) (laws_markFlight.f (k + 1) a0 a1 a2) := by
 intro a0 a1 a2 k
 unfold laws_markFlight.f
 repeat' first
   | (with_reducible exact laws_markBoolS.mono _ _ _)
   | (with_reducible exact laws_markIntS.mono _ _ _)
   | (with_reducible exact LeO.refl _)
   | (with_reducible exact LeO.none _)
   | (with_reducible refine LeO.ite ?_ ?_)
   | (with_reducible refine LeO.bind ?_ (fun _ => ?_))
   | exact laws_markBoolS.mono _ _ _
   | exact laws_markIntS.mono _ _ _
   | exact LeO.none _
   | refine LeO.ite ?_ ?_
   | refine LeO.bind ?_ (fun _ => ?_)
set_option maxHeartbeats 8000000 in
set_option maxRecDepth 100000 in
theorem laws_markFlight.calls (k : Nat) (P0_0_ : Nat → Prop) (u9000_ : Value) (l0_0 : List Int) (P0_1_ : Nat → Prop) (u9001_ : Value) (l0_1 : List Bool) (a1 : Int) (r1 : Int) (r2 : List Int) (r3 : List Bool) (w0 w : World) (hB : Below w0.heap.size w0 w) (ho0_0 : Kd.R (Kd.int .i64) 3 w w0.heap.size P0_0_ u9000_ l0_0) (ho0_1 : Kd.R Kd.bool 4 w w0.heap.size P0_1_ u9001_ l0_1) (h : laws_markFlight.f k l0_0 l0_1 a1 = some (r1, r2, r3)) :
  Calls Try.prog 19 #[.agg #[u9000_, u9001_], .int .i64 a1] w fun e w' => e = .returned (.int .i64 r1) ∧ Kd.R (Kd.int .i64) 3 w' w0.heap.size (fun k_ => ((P0_0_ k_ ∨ P0_1_ k_) ∨ w.heap.size ≤ k_)) u9000_ r2 ∧ Kd.R Kd.bool 4 w' w0.heap.size (fun k_ => ((P0_0_ k_ ∨ P0_1_ k_) ∨ w.heap.size ≤ k_)) u9001_ r3 ∧ Below w0.heap.size w0 w' ∧ Kept w w' (fun k_ => P0_0_ k_ ∨ P0_1_ k_) := by
 have hu29 := Try.underlying29
 have HO0_0 := Aside0.mk (show Kd.R (Kd.int .i64) 3 w w0.heap.size (fun k_ => ((P0_0_ k_ ∨ P0_1_ k_) ∨ w.heap.size ≤ k_)) u9000_ l0_0 from Kd.R_mono ho0_0 (fun k_ hk => (.inl (.inl hk))))
 have HO0_1 := Aside0.mk (show Kd.R Kd.bool 4 w w0.heap.size (fun k_ => ((P0_0_ k_ ∨ P0_1_ k_) ∨ w.heap.size ≤ k_)) u9001_ l0_1 from Kd.R_mono ho0_1 (fun k_ hk => (.inl (.inr hk))))
 have HK := Aside0.mk (Kept.refl w (fun k_ => P0_0_ k_ ∨ P0_1_ k_))
 have HW0 := Aside0.mk hB.size
 have HB := Aside0.mk hB
 clear hB
 have H : ((laws_markIntS.f k l0_0 a1).bind fun bt176 => ((laws_markBoolS.f k l0_1 bt176.1).bind fun bt178 => (some (bt178.1, bt176.2, bt178.2)))) = some (r1, r2, r3) := h
 clear h
 replace H := Option.bind_eq_some_iff.mp H
 obtain ⟨⟨t176, t177⟩, A30, H⟩ := H
 replace H : ((laws_markBoolS.f k l0_1 t176).bind fun bt178 => (some (bt178.1, t177, bt178.2))) = some (r1, r2, r3) := H
 have A3 := Aside0.mk A30
 clear A30
 replace H := Option.bind_eq_some_iff.mp H
 obtain ⟨⟨t178, t179⟩, A40, H⟩ := H
 replace H : (some (t178, t177, t179)) = some (r1, r2, r3) := H
 have A4 := Aside0.mk A40
 clear A40
 simp only [Option.some.injEq, Prod.mk.injEq] at H
 obtain ⟨rfl, rfl, rfl⟩ := H
 obtain ⟨Ao5, co5, eo5⟩ := Kd.R_slice HO0_0.out
 subst eo5
 obtain ⟨Ao6, co6, eo6⟩ := Kd.R_slice HO0_1.out
 subst eo6
 go_enter Try.func19, Try.ntmps19
 go_wp2_with (first | ((with_reducible refine gate_dst (N := 2) rfl ?_); refine box_event ?hg (N := 2) ?hd (cs := #[.slice Ao5 l0_0.length co5, .slice Ao6 l0_1.length co6]) (t := 29) ?hr ?_; (case hd => rfl); (case hg => rfl); (case hr => first | (go_simp; done) | (go_simp; rfl)); intro gb175 hg w7 hbox hb; replace HO0_0 := xq HO0_0 hb; replace HO0_1 := xq HO0_1 hb; have BK175 := Aside0.mk (hbox); have GW175 := Aside0.mk ((by rw [hg]; exact (by first | exact HK.out.1 | exact (show Kept w _ (fun k_ => P0_0_ k_ ∨ P0_1_ k_) from by repeat (first | (with_reducible first | exact HK.out | apply Kept.alloc | apply Kept.drewN | apply Kept.drew) | exact HK.out)).1) : w.heap.size ≤ gb175)); replace HK := Aside0.mk (Kept.below (S := (fun k_ => P0_0_ k_ ∨ P0_1_ k_)) (by repeat (first | (with_reducible first | exact HK.out | apply Kept.alloc | apply Kept.drewN | apply Kept.drew) | exact HK.out)) hb); have GE175 := Aside0.mk ((by rw [hg]; exact (below_size (xs HB.out)) : w0.heap.size ≤ gb175)); replace HB := xp HB hb; clear hb hbox hg; have hcz8_0 : w7.cell? ⟨gb175, 0, none⟩ = some (.slice Ao5 l0_0.length co5) := (blk_cell BK175.out 0).trans rfl; have hcz8_1 : w7.cell? ⟨gb175, 1, none⟩ = some (.slice Ao6 l0_1.length co6) := (blk_cell BK175.out 1).trans rfl; have hfz8_0 := blk_frozen BK175.out 0; have hfz8_1 := blk_frozen BK175.out 1) | ((with_reducible refine gate_callee (f := 43) rfl ?_); refine goesL_ (some 8) rfl rfl Try.func43 (by kernel_rfl) rfl #[.slice Ao5 l0_0.length co5, .int .i64 a1] rfl (by (try simp only [List.map_toArray, List.map_cons, List.map_nil]); first | done | rfl | (simp only [List.length_drop, List.length_take]; rfl)) ?_; (with_reducible refine (laws_markIntS.calls k (fun k_ => some k_ = (.slice Ao5 l0_0.length co5 : Value).ownBlock) (.slice Ao5 l0_0.length co5) l0_0 a1 t176 t177 w0 _ ?side1 ?side2 A3.out).mono ?_); (case side1 => repeat (first | (with_reducible first | exact HB.out | apply below_alloc | apply pw_below_drewN | apply below_drew1 | refine below_set ?_ GE175.out) | exact HB.out)); (case side2 => exact Kd.R_tight rfl HO0_0.out); rintro e w9 ⟨rfl, hy0, hb, hkp⟩; refine ⟨_, rfl, ?_⟩; replace HO0_1 := Aside0.mk (Kd.R_mono (ok' := fun k_ => ((P0_0_ k_ ∨ P0_1_ k_) ∨ w.heap.size ≤ k_)) (Kd.R_keptB ((Kd.R_apart' HO0_1.out (Kd.R_typed HO0_0.out) (by decide))) hkp (fun k_ hk_ hs_ => (hk_.2) hs_)) (fun k_ hk_ => hk_.1.1)); replace BK175 := Aside0.mk (blk_kept (xb BK175.out) hkp (fun hs_ => (fun e_ => (Kd.R_ne HO0_0.out BK175.out (by decide)) e_) hs_)); replace HK := Aside0.mk (Kept.then_ (S := (fun k_ => P0_0_ k_ ∨ P0_1_ k_)) (by repeat (first | (with_reducible first | exact HK.out | apply Kept.alloc | apply Kept.drewN | apply Kept.drew | refine Kept.setCell ?_ (.inr GW175.out) _) | exact HK.out)) hkp (fun k_ hs_ => (fun e_ => (HO0_0.out.1 k_ e_.symm)) hs_)); replace HO0_0 := Aside0.mk (Kd.R_reok rfl hy0 (fun k_ e_ => HO0_0.out.1 k_ e_)); replace HB := Aside0.mk (hb); (try clear hb); (try clear hkp); (try clear hy0); have hcz10_0 : w9.cell? ⟨gb175, 0, none⟩ = some (.slice Ao5 l0_0.length co5) := (blk_cell BK175.out 0).trans rfl; have hcz10_1 : w9.cell? ⟨gb175, 1, none⟩ = some (.slice Ao6 l0_1.length co6) := (blk_cell BK175.out 1).trans rfl; have hfz10_0 := blk_frozen BK175.out 0; have hfz10_1 := blk_frozen BK175.out 1) | ((with_reducible refine gate_callee (f := 44) rfl ?_); refine goesL_ (some 12) rfl rfl Try.func44 (by kernel_rfl) rfl #[.slice Ao6 l0_1.length co6, .int .i64 t176] rfl (by (try simp only [List.map_toArray, List.map_cons, List.map_nil]); first | done | rfl | (simp only [List.length_drop, List.length_take]; rfl)) ?_; (with_reducible refine (laws_markBoolS.calls k (fun k_ => some k_ = (.slice Ao6 l0_1.length co6 : Value).ownBlock) (.slice Ao6 l0_1.length co6) l0_1 t176 t178 t179 w0 _ ?side1 ?side2 A4.out).mono ?_); (case side1 => repeat (first | (with_reducible first | exact HB.out | apply below_alloc | apply pw_below_drewN | apply below_drew1 | refine below_set ?_ GE175.out) | exact HB.out)); (case side2 => exact Kd.R_tight rfl HO0_1.out); rintro e w11 ⟨rfl, hy0, hb, hkp⟩; refine ⟨_, rfl, ?_⟩; replace HO0_0 := Aside0.mk (Kd.R_mono (ok' := fun k_ => ((P0_0_ k_ ∨ P0_1_ k_) ∨ w.heap.size ≤ k_)) (Kd.R_keptB ((Kd.R_apart' HO0_0.out (Kd.R_typed HO0_1.out) (by decide))) hkp (fun k_ hk_ hs_ => (hk_.2) hs_)) (fun k_ hk_ => hk_.1.1)); replace BK175 := Aside0.mk (blk_kept (xb BK175.out) hkp (fun hs_ => (fun e_ => (Kd.R_ne HO0_1.out BK175.out (by decide)) e_) hs_)); replace HK := Aside0.mk (Kept.then_ (S := (fun k_ => P0_0_ k_ ∨ P0_1_ k_)) (by repeat (first | (with_reducible first | exact HK.out | apply Kept.alloc | apply Kept.drewN | apply Kept.drew | refine Kept.setCell ?_ (.inr GW175.out) _) | exact HK.out)) hkp (fun k_ hs_ => (fun e_ => (HO0_1.out.1 k_ e_.symm)) hs_)); replace HO0_1 := Aside0.mk (Kd.R_reok rfl hy0 (fun k_ e_ => HO0_1.out.1 k_ e_)); replace HB := Aside0.mk (hb); (try clear hb); (try clear hkp); (try clear hy0)))
 go_ret
 exact ⟨by first | rfl | (simp [errW_none, errW_some] <;> rfl) | (simp [*, errW_none, errW_some] <;> rfl), by (with_reducible repeat (first | apply Kd.R_alloc | apply Kd.R_drewN | apply Kd.R_drew)); exact HO0_0.out, by (with_reducible repeat (first | apply Kd.R_alloc | apply Kd.R_drewN | apply Kd.R_drew)); exact HO0_1.out, by repeat (first | (with_reducible first | exact HB.out | apply below_alloc | apply pw_below_drewN | apply below_drew1 | refine below_set ?_ GE175.out) | exact HB.out), by repeat (first | (with_reducible first | exact HK.out | apply Kept.alloc | apply Kept.drewN | apply Kept.drew | refine Kept.setCell ?_ (.inr GW175.out) _) | exact HK.out)⟩

/-! ### laws_heldIntS: function 45 -/
def laws_heldIntS.l0 : Nat → List Int → Int → Int → Option (Int)
  | 0, _, _, _ => none
  | k + 1, x0, x1, x5 => if x5 < (x0.length : Int) then (if 0 ≤ x5 then (if (rd x0 x5) = x1 then (laws_heldIntS.l0 k x0 (wrap64 (x1 + 1)) (wrap64 (x5 + 1))) else (some (-1))) else (none)) else (some x1)
def laws_heldIntS.f (k : Nat) (l0 : List Int) (a1 : Int) : Option (Int) := laws_heldIntS.l0 k l0 a1 0
theorem laws_heldIntS.mono_l : ∀ k, (∀ y0 y1 y2, LeO (laws_heldIntS.l0 k y0 y1 y2) (laws_heldIntS.l0 (k + 1) y0 y1 y2))
 | 0 => fun _ _ _ r h => by simp [laws_heldIntS.l0] at h
 | k + 1 => by
  have ih0 := laws_heldIntS.mono_l k
  ·intro y0 y1 y2
   unfold laws_heldIntS.l0
   repeat' first
   | (with_reducible exact ih0 _ _ _)
   | (with_reducible exact LeO.refl _)
   | (with_reducible exact LeO.none _)
   | (with_reducible refine LeO.ite ?_ ?_)
   | (with_reducible refine LeO.bind ?_ (fun _ => ?_))
   | exact ih0 _ _ _
   | exact LeO.none _
   | refine LeO.ite ?_ ?_
   | refine LeO.bind ?_ (fun _ => ?_)
theorem laws_heldIntS.mono : ∀ a0 a1 k, LeO (laws_heldIntS.f k a0 a1) (laws_heldIntS.f (k + 1) a0 a1) := by
 intro a0 a1 k
 have ih0 := laws_heldIntS.mono_l k
 unfold laws_heldIntS.f
 repeat' first
   | (with_reducible exact ih0 _ _ _)
   | (with_reducible exact LeO.refl _)
   | (with_reducible exact LeO.none _)
   | (with_reducible refine LeO.ite ?_ ?_)
   | (with_reducible refine LeO.bind ?_ (fun _ => ?_))
   | exact ih0 _ _ _
   | exact LeO.none _
   | refine LeO.ite ?_ ?_
   | refine LeO.bind ?_ (fun _ => ?_)
set_option maxHeartbeats 8000000 in
set_option maxRecDepth 100000 in
theorem laws_heldIntS.calls (k : Nat) (A0 : Option Addr) (c0 : Nat) (l0 : List Int) (a1 : Int) (r : Int) (w : World) (hr0 : Kd.C (Kd.int .i64) w A0 l0.length l0) (hc0 : l0.length ≤ c0) (h : laws_heldIntS.f k l0 a1 = some r) :
  Calls Try.prog 45 #[.slice A0 l0.length c0, .int .i64 a1] w fun e w' => e = .returned (.int .i64 r) ∧ Drawn0 w w' := by
 have HR0 := Aside0.mk hr0
 have HC0 := Aside0.mk hc0
 clear hr0 hc0
 have H : (laws_heldIntS.l0 k l0 a1 0) = some r := h
 clear h
 have H' := Aside0.mk H
 clear H
 go_enter Try.func45, Try.ntmps45
 go_wp2
 go_loopg [1, 5] k (fun kq v1 v5 w' => ∃ (x1_1 : Int) (x5_1 : Int), v1 = .int .i64 x1_1 ∧ v5 = .int .i64 x5_1 ∧ Aside0 (laws_heldIntS.l0 kq l0 x1_1 x5_1 = some r) ∧ Aside0 (kq ≤ k) ∧ Drawn0 w w')
 case atStart => exact ⟨(a1), (0), (by first | rfl | (simp; done) | (simp [*]; done)), (by first | rfl | (simp; done) | (simp [*]; done)), H', ⟨Nat.le_refl _⟩, by repeat (first | exact Drawn0.refl _ | apply Drawn0.step)⟩
 case round =>
  clear H'
  try clear p2
  obtain ⟨x1_1, x5_1, rfl, rfl, HA, HK1, ⟨m1, rfl⟩⟩ := hrel
  cases gk with
  | zero => exact absurd HA.out (by simp [laws_heldIntS.l0])
  | succ k1 =>
   have H := HA.out
   clear HA
   simp only [laws_heldIntS.l0] at H
   by_cases c3 : x5_1 < (l0.length : Int)
   ·rw [if_pos c3] at H
    have c3b0 : decide (x5_1 < (l0.length : Int)) = true := decide_eq_true c3
    clear c3
    by_cases c4 : 0 ≤ x5_1
    ·rw [if_pos c4] at H
     have c4b0 : decide (0 ≤ x5_1) = true := decide_eq_true c4
     clear c4
     by_cases c5 : (rd l0 x5_1) = x1_1
     ·rw [if_pos c5] at H
      have c5b0 : ((rd l0 x5_1) == x1_1) = true := beq_iff_eq.mpr c5
      have c5b1 : ((rd l0 x5_1) != x1_1) = false := bne_eq_false_iff_eq.mpr c5
      clear c5
      have H' := Aside0.mk H
      clear H
      have p180 : 0 ≤ (x5_1 : Int) := of_decide_eq_true (by first | (with_reducible assumption) | assumption)
      have q180 : x5_1 < (l0.length : Int) := of_decide_eq_true (by first | (with_reducible assumption) | assumption)
      obtain ⟨ad180, e180, hx180_0⟩ := Kd.at_int HR0.out x5_1 p180 q180
      cases e180
      replace p180 := eq_true p180
      replace q180 := eq_true q180
      go_wp2
      go_roundg k1
      case measure => have := HK1.out; omega
      case rel => exact ⟨(wrap64 (x1_1 + 1)), (wrap64 (x5_1 + 1)), (by first | rfl | (simp; done) | (simp [*]; done)), (by first | rfl | (simp; done) | (simp [*]; done)), H', ⟨by have := HK1.out; omega⟩, by repeat (first | exact Drawn0.refl _ | apply Drawn0.step)⟩
     ·rw [if_neg c5] at H
      have c5b0 : ((rd l0 x5_1) == x1_1) = false := beq_eq_false_iff_ne.mpr c5
      have c5b1 : ((rd l0 x5_1) != x1_1) = true := bne_iff_ne.mpr c5
      obtain rfl := Option.some.inj H
      have p180 : 0 ≤ (x5_1 : Int) := of_decide_eq_true (by first | (with_reducible assumption) | assumption)
      have q180 : x5_1 < (l0.length : Int) := of_decide_eq_true (by first | (with_reducible assumption) | assumption)
      obtain ⟨ad180, e180, hx180_0⟩ := Kd.at_int HR0.out x5_1 p180 q180
      cases e180
      replace p180 := eq_true p180
      replace q180 := eq_true q180
      go_wp2
      go_ret
      exact ⟨by first | rfl | (simp; done) | (simp [*]; done), by repeat (first | exact Drawn0.refl _ | apply Drawn0.step)⟩
    ·rw [if_neg c4] at H
     exact absurd H (by simp)
   ·rw [if_neg c3] at H
    have c3b0 : decide (x5_1 < (l0.length : Int)) = false := decide_eq_false c3
    clear c3
    obtain rfl := Option.some.inj H
    go_wp2
    go_ret
    exact ⟨by first | rfl | (simp; done) | (simp [*]; done), by repeat (first | exact Drawn0.refl _ | apply Drawn0.step)⟩

end Go.Proofs.Ytmedapafllmhjaa.PFnExactReverseFlight

/- Lean functions of the Go functions that the law FnExactStretchChanges reaches, and the proofs that the calls come to what they say (made by program). -/
import Derived.Test.YtmedapafllmhjaaDoorPFnExactStretchChangesx0
import Derived.Test.YtmedapafllmhjaaDoorPFnExactStretchChangesx3
import Derived.Test.YtmedapafllmhjaaDoorPFnExactStretchChangesx4
namespace Go.Proofs.YtmedapafllmhjaaDoor.PFnExactStretchChanges
open Go.RowKit Go.Proofs.YtmedapafllmhjaaDoorW.PrintWords Go.Proofs.YtmedapafllmhjaaDoorW.PrintLast Go.Proofs.YtmedapafllmhjaaDoorW.PrintMore
attribute [local go_sem] max2_int min2_int max_two min_two max_three min_three max_four min_four   -- for this text's walks alone
set_option linter.unusedVariables false
set_option linter.unusedSimpArgs false

/-! ### impl_run: function 34 -/
theorem passage_op6 : (opsOf Tryd.f49 1)[6]? = some { dst := some 9, op := Op.build 30 #[(0, Operand.tmp 5), (1, Operand.tmp 8)], type := 30, pos := "l8_lock.go:45", after := #[{ on := 2, ground := Ground.data }, { on := 5, ground := Ground.data }], guard := none } := by kernel_rfl
set_option maxHeartbeats 4000000 in
set_option maxRecDepth 100000 in
theorem passage_region (A0_0 : Option Addr) (c0_0 : Nat) (l0_0 : List Int) (A0_1 : Option Addr) (c0_1 : Nat) (l0_1 : List Bool) (gb : Nat) (w : World) (Q : Exit → Act → World → Prop) (hQ : ∀ c a d v W, Q (.panic c) (a.put d v) W → Q (.panic c) a W) (hr0 : Kd.C (Kd.int .i64) w A0_0 l0_0.length l0_0) (hc0 : l0_0.length ≤ c0_0) (hr1 : Kd.C Kd.bool w A0_1 l0_1.length l0_1) (hc1 : l0_1.length ≤ c0_1) (hl0 : l0_0.length ≤ 1000) (hl1 : l0_1.length ≤ 1000)
    (h_2_5_11_15 : ∀ (v5 v8 v14 v18 : Value) (W : World), Go.RowKit.Below w.heap.size w W → W.heap[gb]? = some (.cells #[.slice A0_0 l0_0.length c0_0, .slice A0_1 l0_1.length c0_1] 30 (0, 0)) → Kd.R (Kd.int .i64) 3 W w.heap.size (fun _ => True) v5 l0_0 → Kd.R Kd.bool 4 W w.heap.size (fun _ => True) v8 l0_1 → Kd.R (Kd.int .i64) 3 W w.heap.size (fun _ => True) v14 (List.replicate (l0_0.length + 1) (0 : Int)) → Kd.R (Kd.int .i64) 3 W w.heap.size (fun _ => True) v18 (List.replicate l0_0.length (0 : Int)) → (∀ k, v5.ownBlock = some k → v14.ownBlock ≠ some k) → (∀ k, v5.ownBlock = some k → v18.ownBlock ≠ some k) → (∀ k, v14.ownBlock = some k → v18.ownBlock ≠ some k) → wpAnyLast Tryd.prog .any (opsOf Tryd.f49 1) Q (fun w' : World => w'.cell? ⟨gb, 0, none⟩ = some (.slice A0_0 l0_0.length c0_0) ∧ w'.cell? ⟨gb, 1, none⟩ = some (.slice A0_1 l0_1.length c0_1)) [] 3 #[true, true, true, true, true, true, true, true, true, true, true, true, true, true, true, true, false, false, false] { tmps := #[.agg #[.slice A0_0 l0_0.length c0_0, .slice A0_1 l0_1.length c0_1], .pointer (some ⟨gb, 0, none⟩), .pointer none, .pointer (some ⟨gb, 0, none⟩), .slice A0_0 l0_0.length c0_0, v5, .pointer (some ⟨gb, 1, none⟩), .slice A0_1 l0_1.length c0_1, v8, .agg #[v5, v8], .pointer (some ⟨gb, 0, none⟩), .slice A0_0 l0_0.length c0_0, .int .i64 (l0_0.length : Int), .int .i64 ((l0_0.length : Int) + 1), v14, .pointer (some ⟨gb, 0, none⟩), .slice A0_0 l0_0.length c0_0, .int .i64 (l0_0.length : Int), v18, undef, undef], defers := [] } W)
    (W : World) (HB : Go.RowKit.Below w.heap.size w W) (BK : W.heap[gb]? = some (.cells #[.slice A0_0 l0_0.length c0_0, .slice A0_1 l0_1.length c0_1] 30 (0, 0))) : wpAnyLast Tryd.prog .any (opsOf Tryd.f49 1) Q (fun w' : World => w'.cell? ⟨gb, 0, none⟩ = some (.slice A0_0 l0_0.length c0_0) ∧ w'.cell? ⟨gb, 1, none⟩ = some (.slice A0_1 l0_1.length c0_1)) [] 8 #[true, true, false, true, true, false, false, true, true, true, true, false, true, true, true, false, false, false, false] { tmps := #[.agg #[.slice A0_0 l0_0.length c0_0, .slice A0_1 l0_1.length c0_1], .pointer (some ⟨gb, 0, none⟩), .pointer none, .pointer (some ⟨gb, 0, none⟩), .slice A0_0 l0_0.length c0_0, undef, .pointer (some ⟨gb, 1, none⟩), .slice A0_1 l0_1.length c0_1, undef, undef, .pointer (some ⟨gb, 0, none⟩), .slice A0_0 l0_0.length c0_0, .int .i64 (l0_0.length : Int), .int .i64 ((l0_0.length : Int) + 1), undef, .pointer (some ⟨gb, 0, none⟩), .slice A0_0 l0_0.length c0_0, .int .i64 (l0_0.length : Int), undef, undef, undef], defers := [] } W := by
  have h_2_5_11 : ∀ (v5 v8 v14 : Value) (W : World), Go.RowKit.Below w.heap.size w W → W.heap[gb]? = some (.cells #[.slice A0_0 l0_0.length c0_0, .slice A0_1 l0_1.length c0_1] 30 (0, 0)) → Kd.R (Kd.int .i64) 3 W w.heap.size (fun _ => True) v5 l0_0 → Kd.R Kd.bool 4 W w.heap.size (fun _ => True) v8 l0_1 → Kd.R (Kd.int .i64) 3 W w.heap.size (fun _ => True) v14 (List.replicate (l0_0.length + 1) (0 : Int)) → (∀ k, v5.ownBlock = some k → v14.ownBlock ≠ some k) → wpAnyLast Tryd.prog .any (opsOf Tryd.f49 1) Q (fun w' : World => w'.cell? ⟨gb, 0, none⟩ = some (.slice A0_0 l0_0.length c0_0) ∧ w'.cell? ⟨gb, 1, none⟩ = some (.slice A0_1 l0_1.length c0_1)) [] 4 #[true, true, true, true, true, true, true, true, true, true, true, true, true, true, true, false, false, false, false] { tmps := #[.agg #[.slice A0_0 l0_0.length c0_0, .slice A0_1 l0_1.length c0_1], .pointer (some ⟨gb, 0, none⟩), .pointer none, .pointer (some ⟨gb, 0, none⟩), .slice A0_0 l0_0.length c0_0, v5, .pointer (some ⟨gb, 1, none⟩), .slice A0_1 l0_1.length c0_1, v8, .agg #[v5, v8], .pointer (some ⟨gb, 0, none⟩), .slice A0_0 l0_0.length c0_0, .int .i64 (l0_0.length : Int), .int .i64 ((l0_0.length : Int) + 1), v14, .pointer (some ⟨gb, 0, none⟩), .slice A0_0 l0_0.length c0_0, .int .i64 (l0_0.length : Int), undef, undef, undef], defers := [] } W := by
    intro v5 v8 v14 W HB BK O5 O8 O14 N5_14
    refine wpAnyLast_ready (rs := [15]) (by kernel_rfl) (by simp) (AllReadyL.cons (i := 15) rfl (by decide) (fun K hK => ?a15) AllReadyL.nil)
    case a15 =>
      refine Kd.R_make_step (Kd.int .i64) (w0 := W) W.heap.size 3 rfl (N := 18) rfl 23 _ _ rfl (l0_0.length : Int) rfl rfl Tryd.underlying23 (.int .i64 0) 8 info3 rfl (by decide) (by omega) (0 : Int) (ok := fun _ => True) (okp := fun _ => True) rfl (fun _ hk => hk) trivial (by omega) (by omega) (Go.RowKit.Below.refl _ _) (Nat.le_refl _) ?_
      intro v18 W2 ho hb hg_ hn_
      rw [Int.toNat_natCast] at ho
      have BK2 := blk_below BK hb
      refine hK.out _ _ ⟨(blk_cell BK2 0).trans rfl, (blk_cell BK2 1).trans rfl⟩ (fun _ => ?_)
      refine norm_ (a' := { tmps := #[.agg #[.slice A0_0 l0_0.length c0_0, .slice A0_1 l0_1.length c0_1], .pointer (some ⟨gb, 0, none⟩), .pointer none, .pointer (some ⟨gb, 0, none⟩), .slice A0_0 l0_0.length c0_0, v5, .pointer (some ⟨gb, 1, none⟩), .slice A0_1 l0_1.length c0_1, v8, .agg #[v5, v8], .pointer (some ⟨gb, 0, none⟩), .slice A0_0 l0_0.length c0_0, .int .i64 (l0_0.length : Int), .int .i64 ((l0_0.length : Int) + 1), v14, .pointer (some ⟨gb, 0, none⟩), .slice A0_0 l0_0.length c0_0, .int .i64 (l0_0.length : Int), v18, undef, undef], defers := [] }) (by show Act.put _ (some 18) _ = _; simp only [Act.put, List.setIfInBounds_toArray, List.set_cons_zero, List.set_cons_succ]) ?_
      (try simp only [List.setIfInBounds_toArray, List.set_cons_zero, List.set_cons_succ])
      exact h_2_5_11_15 v5 v8 v14 v18 W2 (below_then HB HB.size hb) BK2 (Kd.R_below O5 hb) (Kd.R_below O8 hb) (Kd.R_below O14 hb) (Kd.R_lower ho HB.size) N5_14 (apart_new O5 ho) (apart_new O14 ho)
  have h_2_5_15 : ∀ (v5 v8 v18 : Value) (W : World), Go.RowKit.Below w.heap.size w W → W.heap[gb]? = some (.cells #[.slice A0_0 l0_0.length c0_0, .slice A0_1 l0_1.length c0_1] 30 (0, 0)) → Kd.R (Kd.int .i64) 3 W w.heap.size (fun _ => True) v5 l0_0 → Kd.R Kd.bool 4 W w.heap.size (fun _ => True) v8 l0_1 → Kd.R (Kd.int .i64) 3 W w.heap.size (fun _ => True) v18 (List.replicate l0_0.length (0 : Int)) → (∀ k, v5.ownBlock = some k → v18.ownBlock ≠ some k) → wpAnyLast Tryd.prog .any (opsOf Tryd.f49 1) Q (fun w' : World => w'.cell? ⟨gb, 0, none⟩ = some (.slice A0_0 l0_0.length c0_0) ∧ w'.cell? ⟨gb, 1, none⟩ = some (.slice A0_1 l0_1.length c0_1)) [] 4 #[true, true, true, true, true, true, true, true, true, true, true, false, true, true, true, true, false, false, false] { tmps := #[.agg #[.slice A0_0 l0_0.length c0_0, .slice A0_1 l0_1.length c0_1], .pointer (some ⟨gb, 0, none⟩), .pointer none, .pointer (some ⟨gb, 0, none⟩), .slice A0_0 l0_0.length c0_0, v5, .pointer (some ⟨gb, 1, none⟩), .slice A0_1 l0_1.length c0_1, v8, .agg #[v5, v8], .pointer (some ⟨gb, 0, none⟩), .slice A0_0 l0_0.length c0_0, .int .i64 (l0_0.length : Int), .int .i64 ((l0_0.length : Int) + 1), undef, .pointer (some ⟨gb, 0, none⟩), .slice A0_0 l0_0.length c0_0, .int .i64 (l0_0.length : Int), v18, undef, undef], defers := [] } W := by
    intro v5 v8 v18 W HB BK O5 O8 O18 N5_18
    refine wpAnyLast_ready (rs := [11]) (by kernel_rfl) (by simp) (AllReadyL.cons (i := 11) rfl (by decide) (fun K hK => ?a11) AllReadyL.nil)
    case a11 =>
      refine Kd.R_make_step (Kd.int .i64) (w0 := W) W.heap.size 3 rfl (N := 14) rfl 23 _ _ rfl ((l0_0.length : Int) + 1) rfl rfl Tryd.underlying23 (.int .i64 0) 8 info3 rfl (by decide) (by omega) (0 : Int) (ok := fun _ => True) (okp := fun _ => True) rfl (fun _ hk => hk) trivial (by omega) (by omega) (Go.RowKit.Below.refl _ _) (Nat.le_refl _) ?_
      intro v14 W2 ho hb hg_ hn_
      rw [show ((l0_0.length : Int) + 1).toNat = l0_0.length + 1 by omega] at ho
      have BK2 := blk_below BK hb
      refine hK.out _ _ ⟨(blk_cell BK2 0).trans rfl, (blk_cell BK2 1).trans rfl⟩ (fun _ => ?_)
      refine norm_ (a' := { tmps := #[.agg #[.slice A0_0 l0_0.length c0_0, .slice A0_1 l0_1.length c0_1], .pointer (some ⟨gb, 0, none⟩), .pointer none, .pointer (some ⟨gb, 0, none⟩), .slice A0_0 l0_0.length c0_0, v5, .pointer (some ⟨gb, 1, none⟩), .slice A0_1 l0_1.length c0_1, v8, .agg #[v5, v8], .pointer (some ⟨gb, 0, none⟩), .slice A0_0 l0_0.length c0_0, .int .i64 (l0_0.length : Int), .int .i64 ((l0_0.length : Int) + 1), v14, .pointer (some ⟨gb, 0, none⟩), .slice A0_0 l0_0.length c0_0, .int .i64 (l0_0.length : Int), v18, undef, undef], defers := [] }) (by show Act.put _ (some 14) _ = _; simp only [Act.put, List.setIfInBounds_toArray, List.set_cons_zero, List.set_cons_succ]) ?_
      (try simp only [List.setIfInBounds_toArray, List.set_cons_zero, List.set_cons_succ])
      exact h_2_5_11_15 v5 v8 v14 v18 W2 (below_then HB HB.size hb) BK2 (Kd.R_below O5 hb) (Kd.R_below O8 hb) (Kd.R_lower ho HB.size) (Kd.R_below O18 hb) (apart_new O5 ho) N5_18 (fun k h1 h2 => apart_new O18 ho k h2 h1)
  have h_2_11_15 : ∀ (v5 v14 v18 : Value) (W : World), Go.RowKit.Below w.heap.size w W → W.heap[gb]? = some (.cells #[.slice A0_0 l0_0.length c0_0, .slice A0_1 l0_1.length c0_1] 30 (0, 0)) → Kd.R (Kd.int .i64) 3 W w.heap.size (fun _ => True) v5 l0_0 → Kd.R (Kd.int .i64) 3 W w.heap.size (fun _ => True) v14 (List.replicate (l0_0.length + 1) (0 : Int)) → Kd.R (Kd.int .i64) 3 W w.heap.size (fun _ => True) v18 (List.replicate l0_0.length (0 : Int)) → (∀ k, v5.ownBlock = some k → v14.ownBlock ≠ some k) → (∀ k, v5.ownBlock = some k → v18.ownBlock ≠ some k) → (∀ k, v14.ownBlock = some k → v18.ownBlock ≠ some k) → wpAnyLast Tryd.prog .any (opsOf Tryd.f49 1) Q (fun w' : World => w'.cell? ⟨gb, 0, none⟩ = some (.slice A0_0 l0_0.length c0_0) ∧ w'.cell? ⟨gb, 1, none⟩ = some (.slice A0_1 l0_1.length c0_1)) [] 5 #[true, true, true, true, true, false, false, true, true, true, true, true, true, true, true, true, false, false, false] { tmps := #[.agg #[.slice A0_0 l0_0.length c0_0, .slice A0_1 l0_1.length c0_1], .pointer (some ⟨gb, 0, none⟩), .pointer none, .pointer (some ⟨gb, 0, none⟩), .slice A0_0 l0_0.length c0_0, v5, .pointer (some ⟨gb, 1, none⟩), .slice A0_1 l0_1.length c0_1, undef, undef, .pointer (some ⟨gb, 0, none⟩), .slice A0_0 l0_0.length c0_0, .int .i64 (l0_0.length : Int), .int .i64 ((l0_0.length : Int) + 1), v14, .pointer (some ⟨gb, 0, none⟩), .slice A0_0 l0_0.length c0_0, .int .i64 (l0_0.length : Int), v18, undef, undef], defers := [] } W := by
    intro v5 v14 v18 W HB BK O5 O14 O18 N5_14 N5_18 N14_18
    refine wpAnyLast_ready (rs := [5]) (by kernel_rfl) (by simp) (AllReadyL.cons (i := 5) rfl (by decide) (fun K hK => ?a5) AllReadyL.nil)
    case a5 =>
      refine goes_ Tryd.func63 (by kernel_rfl) rfl #[.slice A0_1 l0_1.length c0_1] (by rfl) rfl rfl (by (try simp only [List.map_toArray, List.map_cons, List.map_nil]); first | done | rfl) ?_
      refine (slices_Clone_bool_bool.calls _ _ l0_1 l0_1 W (Kd.C_below hr1 HB) (by assumption) (by unfold slices_Clone_bool_bool.f; rw [if_pos (by omega)])).mono ?_
      rintro e W2 ⟨v8, rfl, ho, hb⟩
      refine ⟨_, rfl, ?_⟩
      have BK2 := blk_below BK hb
      refine hK.out _ _ ⟨(blk_cell BK2 0).trans rfl, (blk_cell BK2 1).trans rfl⟩ (fun _ => ?_)
      refine norm_ (a' := { tmps := #[.agg #[.slice A0_0 l0_0.length c0_0, .slice A0_1 l0_1.length c0_1], .pointer (some ⟨gb, 0, none⟩), .pointer none, .pointer (some ⟨gb, 0, none⟩), .slice A0_0 l0_0.length c0_0, v5, .pointer (some ⟨gb, 1, none⟩), .slice A0_1 l0_1.length c0_1, v8, undef, .pointer (some ⟨gb, 0, none⟩), .slice A0_0 l0_0.length c0_0, .int .i64 (l0_0.length : Int), .int .i64 ((l0_0.length : Int) + 1), v14, .pointer (some ⟨gb, 0, none⟩), .slice A0_0 l0_0.length c0_0, .int .i64 (l0_0.length : Int), v18, undef, undef], defers := [] }) (by show Act.put _ (some 8) _ = _; simp only [Act.put, List.setIfInBounds_toArray, List.set_cons_zero, List.set_cons_succ]) ?_
      (try simp only [List.setIfInBounds_toArray, List.set_cons_zero, List.set_cons_succ])
      refine pure_ (i := 6) (N := some 9) (v := .agg #[v5, v8]) (a' := { tmps := #[.agg #[.slice A0_0 l0_0.length c0_0, .slice A0_1 l0_1.length c0_1], .pointer (some ⟨gb, 0, none⟩), .pointer none, .pointer (some ⟨gb, 0, none⟩), .slice A0_0 l0_0.length c0_0, v5, .pointer (some ⟨gb, 1, none⟩), .slice A0_1 l0_1.length c0_1, v8, .agg #[v5, v8], .pointer (some ⟨gb, 0, none⟩), .slice A0_0 l0_0.length c0_0, .int .i64 (l0_0.length : Int), .int .i64 ((l0_0.length : Int) + 1), v14, .pointer (some ⟨gb, 0, none⟩), .slice A0_0 l0_0.length c0_0, .int .i64 (l0_0.length : Int), v18, undef, undef], defers := [] }) #[true, true, true, true, true, true, true, true, true, true, true, true, true, true, true, true, false, false, false] passage_op6 rfl (by kernel_rfl) (fun _ _ _ h => hQ _ _ _ _ _ h) (Or.inl ⟨by rfl, ?_⟩) (by simp only [Act.put, List.setIfInBounds_toArray, List.set_cons_zero, List.set_cons_succ]) ?_
      · intro w'
        obtain ⟨Ao5, co5, eo5⟩ := Kd.R_slice O5
        obtain ⟨Ao8, co8, eo8⟩ := Kd.R_slice ho
        rw [eo5, eo8]
        go_simp
        first | done | rfl
      exact h_2_5_11_15 v5 v8 v14 v18 W2 (below_then HB HB.size hb) BK2 (Kd.R_below O5 hb) (Kd.R_lower ho HB.size) (Kd.R_below O14 hb) (Kd.R_below O18 hb) N5_14 N5_18 N14_18
  have h_2_5 : ∀ (v5 v8 : Value) (W : World), Go.RowKit.Below w.heap.size w W → W.heap[gb]? = some (.cells #[.slice A0_0 l0_0.length c0_0, .slice A0_1 l0_1.length c0_1] 30 (0, 0)) → Kd.R (Kd.int .i64) 3 W w.heap.size (fun _ => True) v5 l0_0 → Kd.R Kd.bool 4 W w.heap.size (fun _ => True) v8 l0_1 → wpAnyLast Tryd.prog .any (opsOf Tryd.f49 1) Q (fun w' : World => w'.cell? ⟨gb, 0, none⟩ = some (.slice A0_0 l0_0.length c0_0) ∧ w'.cell? ⟨gb, 1, none⟩ = some (.slice A0_1 l0_1.length c0_1)) [] 5 #[true, true, true, true, true, true, true, true, true, true, true, false, true, true, true, false, false, false, false] { tmps := #[.agg #[.slice A0_0 l0_0.length c0_0, .slice A0_1 l0_1.length c0_1], .pointer (some ⟨gb, 0, none⟩), .pointer none, .pointer (some ⟨gb, 0, none⟩), .slice A0_0 l0_0.length c0_0, v5, .pointer (some ⟨gb, 1, none⟩), .slice A0_1 l0_1.length c0_1, v8, .agg #[v5, v8], .pointer (some ⟨gb, 0, none⟩), .slice A0_0 l0_0.length c0_0, .int .i64 (l0_0.length : Int), .int .i64 ((l0_0.length : Int) + 1), undef, .pointer (some ⟨gb, 0, none⟩), .slice A0_0 l0_0.length c0_0, .int .i64 (l0_0.length : Int), undef, undef, undef], defers := [] } W := by
    intro v5 v8 W HB BK O5 O8
    refine wpAnyLast_ready (rs := [11, 15]) (by kernel_rfl) (by simp) (AllReadyL.cons (i := 11) rfl (by decide) (fun K hK => ?a11) (AllReadyL.cons (i := 15) rfl (by decide) (fun K hK => ?a15) AllReadyL.nil))
    case a11 =>
      refine Kd.R_make_step (Kd.int .i64) (w0 := W) W.heap.size 3 rfl (N := 14) rfl 23 _ _ rfl ((l0_0.length : Int) + 1) rfl rfl Tryd.underlying23 (.int .i64 0) 8 info3 rfl (by decide) (by omega) (0 : Int) (ok := fun _ => True) (okp := fun _ => True) rfl (fun _ hk => hk) trivial (by omega) (by omega) (Go.RowKit.Below.refl _ _) (Nat.le_refl _) ?_
      intro v14 W2 ho hb hg_ hn_
      rw [show ((l0_0.length : Int) + 1).toNat = l0_0.length + 1 by omega] at ho
      have BK2 := blk_below BK hb
      refine hK.out _ _ ⟨(blk_cell BK2 0).trans rfl, (blk_cell BK2 1).trans rfl⟩ (fun _ => ?_)
      refine norm_ (a' := { tmps := #[.agg #[.slice A0_0 l0_0.length c0_0, .slice A0_1 l0_1.length c0_1], .pointer (some ⟨gb, 0, none⟩), .pointer none, .pointer (some ⟨gb, 0, none⟩), .slice A0_0 l0_0.length c0_0, v5, .pointer (some ⟨gb, 1, none⟩), .slice A0_1 l0_1.length c0_1, v8, .agg #[v5, v8], .pointer (some ⟨gb, 0, none⟩), .slice A0_0 l0_0.length c0_0, .int .i64 (l0_0.length : Int), .int .i64 ((l0_0.length : Int) + 1), v14, .pointer (some ⟨gb, 0, none⟩), .slice A0_0 l0_0.length c0_0, .int .i64 (l0_0.length : Int), undef, undef, undef], defers := [] }) (by show Act.put _ (some 14) _ = _; simp only [Act.put, List.setIfInBounds_toArray, List.set_cons_zero, List.set_cons_succ]) ?_
      (try simp only [List.setIfInBounds_toArray, List.set_cons_zero, List.set_cons_succ])
      exact h_2_5_11 v5 v8 v14 W2 (below_then HB HB.size hb) BK2 (Kd.R_below O5 hb) (Kd.R_below O8 hb) (Kd.R_lower ho HB.size) (apart_new O5 ho)
    case a15 =>
      refine Kd.R_make_step (Kd.int .i64) (w0 := W) W.heap.size 3 rfl (N := 18) rfl 23 _ _ rfl (l0_0.length : Int) rfl rfl Tryd.underlying23 (.int .i64 0) 8 info3 rfl (by decide) (by omega) (0 : Int) (ok := fun _ => True) (okp := fun _ => True) rfl (fun _ hk => hk) trivial (by omega) (by omega) (Go.RowKit.Below.refl _ _) (Nat.le_refl _) ?_
      intro v18 W2 ho hb hg_ hn_
      rw [Int.toNat_natCast] at ho
      have BK2 := blk_below BK hb
      refine hK.out _ _ ⟨(blk_cell BK2 0).trans rfl, (blk_cell BK2 1).trans rfl⟩ (fun _ => ?_)
      refine norm_ (a' := { tmps := #[.agg #[.slice A0_0 l0_0.length c0_0, .slice A0_1 l0_1.length c0_1], .pointer (some ⟨gb, 0, none⟩), .pointer none, .pointer (some ⟨gb, 0, none⟩), .slice A0_0 l0_0.length c0_0, v5, .pointer (some ⟨gb, 1, none⟩), .slice A0_1 l0_1.length c0_1, v8, .agg #[v5, v8], .pointer (some ⟨gb, 0, none⟩), .slice A0_0 l0_0.length c0_0, .int .i64 (l0_0.length : Int), .int .i64 ((l0_0.length : Int) + 1), undef, .pointer (some ⟨gb, 0, none⟩), .slice A0_0 l0_0.length c0_0, .int .i64 (l0_0.length : Int), v18, undef, undef], defers := [] }) (by show Act.put _ (some 18) _ = _; simp only [Act.put, List.setIfInBounds_toArray, List.set_cons_zero, List.set_cons_succ]) ?_
      (try simp only [List.setIfInBounds_toArray, List.set_cons_zero, List.set_cons_succ])
      exact h_2_5_15 v5 v8 v18 W2 (below_then HB HB.size hb) BK2 (Kd.R_below O5 hb) (Kd.R_below O8 hb) (Kd.R_lower ho HB.size) (apart_new O5 ho)
  have h_2_11 : ∀ (v5 v14 : Value) (W : World), Go.RowKit.Below w.heap.size w W → W.heap[gb]? = some (.cells #[.slice A0_0 l0_0.length c0_0, .slice A0_1 l0_1.length c0_1] 30 (0, 0)) → Kd.R (Kd.int .i64) 3 W w.heap.size (fun _ => True) v5 l0_0 → Kd.R (Kd.int .i64) 3 W w.heap.size (fun _ => True) v14 (List.replicate (l0_0.length + 1) (0 : Int)) → (∀ k, v5.ownBlock = some k → v14.ownBlock ≠ some k) → wpAnyLast Tryd.prog .any (opsOf Tryd.f49 1) Q (fun w' : World => w'.cell? ⟨gb, 0, none⟩ = some (.slice A0_0 l0_0.length c0_0) ∧ w'.cell? ⟨gb, 1, none⟩ = some (.slice A0_1 l0_1.length c0_1)) [] 6 #[true, true, true, true, true, false, false, true, true, true, true, true, true, true, true, false, false, false, false] { tmps := #[.agg #[.slice A0_0 l0_0.length c0_0, .slice A0_1 l0_1.length c0_1], .pointer (some ⟨gb, 0, none⟩), .pointer none, .pointer (some ⟨gb, 0, none⟩), .slice A0_0 l0_0.length c0_0, v5, .pointer (some ⟨gb, 1, none⟩), .slice A0_1 l0_1.length c0_1, undef, undef, .pointer (some ⟨gb, 0, none⟩), .slice A0_0 l0_0.length c0_0, .int .i64 (l0_0.length : Int), .int .i64 ((l0_0.length : Int) + 1), v14, .pointer (some ⟨gb, 0, none⟩), .slice A0_0 l0_0.length c0_0, .int .i64 (l0_0.length : Int), undef, undef, undef], defers := [] } W := by
    intro v5 v14 W HB BK O5 O14 N5_14
    refine wpAnyLast_ready (rs := [5, 15]) (by kernel_rfl) (by simp) (AllReadyL.cons (i := 5) rfl (by decide) (fun K hK => ?a5) (AllReadyL.cons (i := 15) rfl (by decide) (fun K hK => ?a15) AllReadyL.nil))
    case a5 =>
      refine goes_ Tryd.func63 (by kernel_rfl) rfl #[.slice A0_1 l0_1.length c0_1] (by rfl) rfl rfl (by (try simp only [List.map_toArray, List.map_cons, List.map_nil]); first | done | rfl) ?_
      refine (slices_Clone_bool_bool.calls _ _ l0_1 l0_1 W (Kd.C_below hr1 HB) (by assumption) (by unfold slices_Clone_bool_bool.f; rw [if_pos (by omega)])).mono ?_
      rintro e W2 ⟨v8, rfl, ho, hb⟩
      refine ⟨_, rfl, ?_⟩
      have BK2 := blk_below BK hb
      refine hK.out _ _ ⟨(blk_cell BK2 0).trans rfl, (blk_cell BK2 1).trans rfl⟩ (fun _ => ?_)
      refine norm_ (a' := { tmps := #[.agg #[.slice A0_0 l0_0.length c0_0, .slice A0_1 l0_1.length c0_1], .pointer (some ⟨gb, 0, none⟩), .pointer none, .pointer (some ⟨gb, 0, none⟩), .slice A0_0 l0_0.length c0_0, v5, .pointer (some ⟨gb, 1, none⟩), .slice A0_1 l0_1.length c0_1, v8, undef, .pointer (some ⟨gb, 0, none⟩), .slice A0_0 l0_0.length c0_0, .int .i64 (l0_0.length : Int), .int .i64 ((l0_0.length : Int) + 1), v14, .pointer (some ⟨gb, 0, none⟩), .slice A0_0 l0_0.length c0_0, .int .i64 (l0_0.length : Int), undef, undef, undef], defers := [] }) (by show Act.put _ (some 8) _ = _; simp only [Act.put, List.setIfInBounds_toArray, List.set_cons_zero, List.set_cons_succ]) ?_
      (try simp only [List.setIfInBounds_toArray, List.set_cons_zero, List.set_cons_succ])
      refine pure_ (i := 6) (N := some 9) (v := .agg #[v5, v8]) (a' := { tmps := #[.agg #[.slice A0_0 l0_0.length c0_0, .slice A0_1 l0_1.length c0_1], .pointer (some ⟨gb, 0, none⟩), .pointer none, .pointer (some ⟨gb, 0, none⟩), .slice A0_0 l0_0.length c0_0, v5, .pointer (some ⟨gb, 1, none⟩), .slice A0_1 l0_1.length c0_1, v8, .agg #[v5, v8], .pointer (some ⟨gb, 0, none⟩), .slice A0_0 l0_0.length c0_0, .int .i64 (l0_0.length : Int), .int .i64 ((l0_0.length : Int) + 1), v14, .pointer (some ⟨gb, 0, none⟩), .slice A0_0 l0_0.length c0_0, .int .i64 (l0_0.length : Int), undef, undef, undef], defers := [] }) #[true, true, true, true, true, true, true, true, true, true, true, true, true, true, true, false, false, false, false] passage_op6 rfl (by kernel_rfl) (fun _ _ _ h => hQ _ _ _ _ _ h) (Or.inl ⟨by rfl, ?_⟩) (by simp only [Act.put, List.setIfInBounds_toArray, List.set_cons_zero, List.set_cons_succ]) ?_
      · intro w'
        obtain ⟨Ao5, co5, eo5⟩ := Kd.R_slice O5
        obtain ⟨Ao8, co8, eo8⟩ := Kd.R_slice ho
        rw [eo5, eo8]
        go_simp
        first | done | rfl
      exact h_2_5_11 v5 v8 v14 W2 (below_then HB HB.size hb) BK2 (Kd.R_below O5 hb) (Kd.R_lower ho HB.size) (Kd.R_below O14 hb) N5_14
    case a15 =>
      refine Kd.R_make_step (Kd.int .i64) (w0 := W) W.heap.size 3 rfl (N := 18) rfl 23 _ _ rfl (l0_0.length : Int) rfl rfl Tryd.underlying23 (.int .i64 0) 8 info3 rfl (by decide) (by omega) (0 : Int) (ok := fun _ => True) (okp := fun _ => True) rfl (fun _ hk => hk) trivial (by omega) (by omega) (Go.RowKit.Below.refl _ _) (Nat.le_refl _) ?_
      intro v18 W2 ho hb hg_ hn_
      rw [Int.toNat_natCast] at ho
      have BK2 := blk_below BK hb
      refine hK.out _ _ ⟨(blk_cell BK2 0).trans rfl, (blk_cell BK2 1).trans rfl⟩ (fun _ => ?_)
      refine norm_ (a' := { tmps := #[.agg #[.slice A0_0 l0_0.length c0_0, .slice A0_1 l0_1.length c0_1], .pointer (some ⟨gb, 0, none⟩), .pointer none, .pointer (some ⟨gb, 0, none⟩), .slice A0_0 l0_0.length c0_0, v5, .pointer (some ⟨gb, 1, none⟩), .slice A0_1 l0_1.length c0_1, undef, undef, .pointer (some ⟨gb, 0, none⟩), .slice A0_0 l0_0.length c0_0, .int .i64 (l0_0.length : Int), .int .i64 ((l0_0.length : Int) + 1), v14, .pointer (some ⟨gb, 0, none⟩), .slice A0_0 l0_0.length c0_0, .int .i64 (l0_0.length : Int), v18, undef, undef], defers := [] }) (by show Act.put _ (some 18) _ = _; simp only [Act.put, List.setIfInBounds_toArray, List.set_cons_zero, List.set_cons_succ]) ?_
      (try simp only [List.setIfInBounds_toArray, List.set_cons_zero, List.set_cons_succ])
      exact h_2_11_15 v5 v14 v18 W2 (below_then HB HB.size hb) BK2 (Kd.R_below O5 hb) (Kd.R_below O14 hb) (Kd.R_lower ho HB.size) N5_14 (apart_new O5 ho) (apart_new O14 ho)
  have h_2_15 : ∀ (v5 v18 : Value) (W : World), Go.RowKit.Below w.heap.size w W → W.heap[gb]? = some (.cells #[.slice A0_0 l0_0.length c0_0, .slice A0_1 l0_1.length c0_1] 30 (0, 0)) → Kd.R (Kd.int .i64) 3 W w.heap.size (fun _ => True) v5 l0_0 → Kd.R (Kd.int .i64) 3 W w.heap.size (fun _ => True) v18 (List.replicate l0_0.length (0 : Int)) → (∀ k, v5.ownBlock = some k → v18.ownBlock ≠ some k) → wpAnyLast Tryd.prog .any (opsOf Tryd.f49 1) Q (fun w' : World => w'.cell? ⟨gb, 0, none⟩ = some (.slice A0_0 l0_0.length c0_0) ∧ w'.cell? ⟨gb, 1, none⟩ = some (.slice A0_1 l0_1.length c0_1)) [] 6 #[true, true, true, true, true, false, false, true, true, true, true, false, true, true, true, true, false, false, false] { tmps := #[.agg #[.slice A0_0 l0_0.length c0_0, .slice A0_1 l0_1.length c0_1], .pointer (some ⟨gb, 0, none⟩), .pointer none, .pointer (some ⟨gb, 0, none⟩), .slice A0_0 l0_0.length c0_0, v5, .pointer (some ⟨gb, 1, none⟩), .slice A0_1 l0_1.length c0_1, undef, undef, .pointer (some ⟨gb, 0, none⟩), .slice A0_0 l0_0.length c0_0, .int .i64 (l0_0.length : Int), .int .i64 ((l0_0.length : Int) + 1), undef, .pointer (some ⟨gb, 0, none⟩), .slice A0_0 l0_0.length c0_0, .int .i64 (l0_0.length : Int), v18, undef, undef], defers := [] } W := by
    intro v5 v18 W HB BK O5 O18 N5_18
    refine wpAnyLast_ready (rs := [5, 11]) (by kernel_rfl) (by simp) (AllReadyL.cons (i := 5) rfl (by decide) (fun K hK => ?a5) (AllReadyL.cons (i := 11) rfl (by decide) (fun K hK => ?a11) AllReadyL.nil))
    case a5 =>
      refine goes_ Tryd.func63 (by kernel_rfl) rfl #[.slice A0_1 l0_1.length c0_1] (by rfl) rfl rfl (by (try simp only [List.map_toArray, List.map_cons, List.map_nil]); first | done | rfl) ?_
      refine (slices_Clone_bool_bool.calls _ _ l0_1 l0_1 W (Kd.C_below hr1 HB) (by assumption) (by unfold slices_Clone_bool_bool.f; rw [if_pos (by omega)])).mono ?_
      rintro e W2 ⟨v8, rfl, ho, hb⟩
      refine ⟨_, rfl, ?_⟩
      have BK2 := blk_below BK hb
      refine hK.out _ _ ⟨(blk_cell BK2 0).trans rfl, (blk_cell BK2 1).trans rfl⟩ (fun _ => ?_)
      refine norm_ (a' := { tmps := #[.agg #[.slice A0_0 l0_0.length c0_0, .slice A0_1 l0_1.length c0_1], .pointer (some ⟨gb, 0, none⟩), .pointer none, .pointer (some ⟨gb, 0, none⟩), .slice A0_0 l0_0.length c0_0, v5, .pointer (some ⟨gb, 1, none⟩), .slice A0_1 l0_1.length c0_1, v8, undef, .pointer (some ⟨gb, 0, none⟩), .slice A0_0 l0_0.length c0_0, .int .i64 (l0_0.length : Int), .int .i64 ((l0_0.length : Int) + 1), undef, .pointer (some ⟨gb, 0, none⟩), .slice A0_0 l0_0.length c0_0, .int .i64 (l0_0.length : Int), v18, undef, undef], defers := [] }) (by show Act.put _ (some 8) _ = _; simp only [Act.put, List.setIfInBounds_toArray, List.set_cons_zero, List.set_cons_succ]) ?_
      (try simp only [List.setIfInBounds_toArray, List.set_cons_zero, List.set_cons_succ])
      refine pure_ (i := 6) (N := some 9) (v := .agg #[v5, v8]) (a' := { tmps := #[.agg #[.slice A0_0 l0_0.length c0_0, .slice A0_1 l0_1.length c0_1], .pointer (some ⟨gb, 0, none⟩), .pointer none, .pointer (some ⟨gb, 0, none⟩), .slice A0_0 l0_0.length c0_0, v5, .pointer (some ⟨gb, 1, none⟩), .slice A0_1 l0_1.length c0_1, v8, .agg #[v5, v8], .pointer (some ⟨gb, 0, none⟩), .slice A0_0 l0_0.length c0_0, .int .i64 (l0_0.length : Int), .int .i64 ((l0_0.length : Int) + 1), undef, .pointer (some ⟨gb, 0, none⟩), .slice A0_0 l0_0.length c0_0, .int .i64 (l0_0.length : Int), v18, undef, undef], defers := [] }) #[true, true, true, true, true, true, true, true, true, true, true, false, true, true, true, true, false, false, false] passage_op6 rfl (by kernel_rfl) (fun _ _ _ h => hQ _ _ _ _ _ h) (Or.inl ⟨by rfl, ?_⟩) (by simp only [Act.put, List.setIfInBounds_toArray, List.set_cons_zero, List.set_cons_succ]) ?_
      · intro w'
        obtain ⟨Ao5, co5, eo5⟩ := Kd.R_slice O5
        obtain ⟨Ao8, co8, eo8⟩ := Kd.R_slice ho
        rw [eo5, eo8]
        go_simp
        first | done | rfl
      exact h_2_5_15 v5 v8 v18 W2 (below_then HB HB.size hb) BK2 (Kd.R_below O5 hb) (Kd.R_lower ho HB.size) (Kd.R_below O18 hb) N5_18
    case a11 =>
      refine Kd.R_make_step (Kd.int .i64) (w0 := W) W.heap.size 3 rfl (N := 14) rfl 23 _ _ rfl ((l0_0.length : Int) + 1) rfl rfl Tryd.underlying23 (.int .i64 0) 8 info3 rfl (by decide) (by omega) (0 : Int) (ok := fun _ => True) (okp := fun _ => True) rfl (fun _ hk => hk) trivial (by omega) (by omega) (Go.RowKit.Below.refl _ _) (Nat.le_refl _) ?_
      intro v14 W2 ho hb hg_ hn_
      rw [show ((l0_0.length : Int) + 1).toNat = l0_0.length + 1 by omega] at ho
      have BK2 := blk_below BK hb
      refine hK.out _ _ ⟨(blk_cell BK2 0).trans rfl, (blk_cell BK2 1).trans rfl⟩ (fun _ => ?_)
      refine norm_ (a' := { tmps := #[.agg #[.slice A0_0 l0_0.length c0_0, .slice A0_1 l0_1.length c0_1], .pointer (some ⟨gb, 0, none⟩), .pointer none, .pointer (some ⟨gb, 0, none⟩), .slice A0_0 l0_0.length c0_0, v5, .pointer (some ⟨gb, 1, none⟩), .slice A0_1 l0_1.length c0_1, undef, undef, .pointer (some ⟨gb, 0, none⟩), .slice A0_0 l0_0.length c0_0, .int .i64 (l0_0.length : Int), .int .i64 ((l0_0.length : Int) + 1), v14, .pointer (some ⟨gb, 0, none⟩), .slice A0_0 l0_0.length c0_0, .int .i64 (l0_0.length : Int), v18, undef, undef], defers := [] }) (by show Act.put _ (some 14) _ = _; simp only [Act.put, List.setIfInBounds_toArray, List.set_cons_zero, List.set_cons_succ]) ?_
      (try simp only [List.setIfInBounds_toArray, List.set_cons_zero, List.set_cons_succ])
      exact h_2_11_15 v5 v14 v18 W2 (below_then HB HB.size hb) BK2 (Kd.R_below O5 hb) (Kd.R_lower ho HB.size) (Kd.R_below O18 hb) (apart_new O5 ho) N5_18 (fun k h1 h2 => apart_new O18 ho k h2 h1)
  have h_11_15 : ∀ (v14 v18 : Value) (W : World), Go.RowKit.Below w.heap.size w W → W.heap[gb]? = some (.cells #[.slice A0_0 l0_0.length c0_0, .slice A0_1 l0_1.length c0_1] 30 (0, 0)) → Kd.R (Kd.int .i64) 3 W w.heap.size (fun _ => True) v14 (List.replicate (l0_0.length + 1) (0 : Int)) → Kd.R (Kd.int .i64) 3 W w.heap.size (fun _ => True) v18 (List.replicate l0_0.length (0 : Int)) → (∀ k, v14.ownBlock = some k → v18.ownBlock ≠ some k) → wpAnyLast Tryd.prog .any (opsOf Tryd.f49 1) Q (fun w' : World => w'.cell? ⟨gb, 0, none⟩ = some (.slice A0_0 l0_0.length c0_0) ∧ w'.cell? ⟨gb, 1, none⟩ = some (.slice A0_1 l0_1.length c0_1)) [] 6 #[true, true, false, true, true, false, false, true, true, true, true, true, true, true, true, true, false, false, false] { tmps := #[.agg #[.slice A0_0 l0_0.length c0_0, .slice A0_1 l0_1.length c0_1], .pointer (some ⟨gb, 0, none⟩), .pointer none, .pointer (some ⟨gb, 0, none⟩), .slice A0_0 l0_0.length c0_0, undef, .pointer (some ⟨gb, 1, none⟩), .slice A0_1 l0_1.length c0_1, undef, undef, .pointer (some ⟨gb, 0, none⟩), .slice A0_0 l0_0.length c0_0, .int .i64 (l0_0.length : Int), .int .i64 ((l0_0.length : Int) + 1), v14, .pointer (some ⟨gb, 0, none⟩), .slice A0_0 l0_0.length c0_0, .int .i64 (l0_0.length : Int), v18, undef, undef], defers := [] } W := by
    intro v14 v18 W HB BK O14 O18 N14_18
    refine wpAnyLast_ready (rs := [2]) (by kernel_rfl) (by simp) (AllReadyL.cons (i := 2) rfl (by decide) (fun K hK => ?a2) AllReadyL.nil)
    case a2 =>
      refine goes_ Tryd.func62 (by kernel_rfl) rfl #[.slice A0_0 l0_0.length c0_0] (by rfl) rfl rfl (by (try simp only [List.map_toArray, List.map_cons, List.map_nil]); first | done | rfl) ?_
      refine (slices_Clone_int_int.calls _ _ l0_0 l0_0 W (Kd.C_below hr0 HB) (by assumption) (by unfold slices_Clone_int_int.f; rw [if_pos (by omega)])).mono ?_
      rintro e W2 ⟨v5, rfl, ho, hb⟩
      refine ⟨_, rfl, ?_⟩
      have BK2 := blk_below BK hb
      refine hK.out _ _ ⟨(blk_cell BK2 0).trans rfl, (blk_cell BK2 1).trans rfl⟩ (fun _ => ?_)
      refine norm_ (a' := { tmps := #[.agg #[.slice A0_0 l0_0.length c0_0, .slice A0_1 l0_1.length c0_1], .pointer (some ⟨gb, 0, none⟩), .pointer none, .pointer (some ⟨gb, 0, none⟩), .slice A0_0 l0_0.length c0_0, v5, .pointer (some ⟨gb, 1, none⟩), .slice A0_1 l0_1.length c0_1, undef, undef, .pointer (some ⟨gb, 0, none⟩), .slice A0_0 l0_0.length c0_0, .int .i64 (l0_0.length : Int), .int .i64 ((l0_0.length : Int) + 1), v14, .pointer (some ⟨gb, 0, none⟩), .slice A0_0 l0_0.length c0_0, .int .i64 (l0_0.length : Int), v18, undef, undef], defers := [] }) (by show Act.put _ (some 5) _ = _; simp only [Act.put, List.setIfInBounds_toArray, List.set_cons_zero, List.set_cons_succ]) ?_
      (try simp only [List.setIfInBounds_toArray, List.set_cons_zero, List.set_cons_succ])
      exact h_2_11_15 v5 v14 v18 W2 (below_then HB HB.size hb) BK2 (Kd.R_lower ho HB.size) (Kd.R_below O14 hb) (Kd.R_below O18 hb) (fun k h1 h2 => apart_new O14 ho k h2 h1) (fun k h1 h2 => apart_new O18 ho k h2 h1) N14_18
  have h_2 : ∀ (v5 : Value) (W : World), Go.RowKit.Below w.heap.size w W → W.heap[gb]? = some (.cells #[.slice A0_0 l0_0.length c0_0, .slice A0_1 l0_1.length c0_1] 30 (0, 0)) → Kd.R (Kd.int .i64) 3 W w.heap.size (fun _ => True) v5 l0_0 → wpAnyLast Tryd.prog .any (opsOf Tryd.f49 1) Q (fun w' : World => w'.cell? ⟨gb, 0, none⟩ = some (.slice A0_0 l0_0.length c0_0) ∧ w'.cell? ⟨gb, 1, none⟩ = some (.slice A0_1 l0_1.length c0_1)) [] 7 #[true, true, true, true, true, false, false, true, true, true, true, false, true, true, true, false, false, false, false] { tmps := #[.agg #[.slice A0_0 l0_0.length c0_0, .slice A0_1 l0_1.length c0_1], .pointer (some ⟨gb, 0, none⟩), .pointer none, .pointer (some ⟨gb, 0, none⟩), .slice A0_0 l0_0.length c0_0, v5, .pointer (some ⟨gb, 1, none⟩), .slice A0_1 l0_1.length c0_1, undef, undef, .pointer (some ⟨gb, 0, none⟩), .slice A0_0 l0_0.length c0_0, .int .i64 (l0_0.length : Int), .int .i64 ((l0_0.length : Int) + 1), undef, .pointer (some ⟨gb, 0, none⟩), .slice A0_0 l0_0.length c0_0, .int .i64 (l0_0.length : Int), undef, undef, undef], defers := [] } W := by
    intro v5 W HB BK O5
    refine wpAnyLast_ready (rs := [5, 11, 15]) (by kernel_rfl) (by simp) (AllReadyL.cons (i := 5) rfl (by decide) (fun K hK => ?a5) (AllReadyL.cons (i := 11) rfl (by decide) (fun K hK => ?a11) (AllReadyL.cons (i := 15) rfl (by decide) (fun K hK => ?a15) AllReadyL.nil)))
    case a5 =>
      refine goes_ Tryd.func63 (by kernel_rfl) rfl #[.slice A0_1 l0_1.length c0_1] (by rfl) rfl rfl (by (try simp only [List.map_toArray, List.map_cons, List.map_nil]); first | done | rfl) ?_
      refine (slices_Clone_bool_bool.calls _ _ l0_1 l0_1 W (Kd.C_below hr1 HB) (by assumption) (by unfold slices_Clone_bool_bool.f; rw [if_pos (by omega)])).mono ?_
      rintro e W2 ⟨v8, rfl, ho, hb⟩
      refine ⟨_, rfl, ?_⟩
      have BK2 := blk_below BK hb
      refine hK.out _ _ ⟨(blk_cell BK2 0).trans rfl, (blk_cell BK2 1).trans rfl⟩ (fun _ => ?_)
      refine norm_ (a' := { tmps := #[.agg #[.slice A0_0 l0_0.length c0_0, .slice A0_1 l0_1.length c0_1], .pointer (some ⟨gb, 0, none⟩), .pointer none, .pointer (some ⟨gb, 0, none⟩), .slice A0_0 l0_0.length c0_0, v5, .pointer (some ⟨gb, 1, none⟩), .slice A0_1 l0_1.length c0_1, v8, undef, .pointer (some ⟨gb, 0, none⟩), .slice A0_0 l0_0.length c0_0, .int .i64 (l0_0.length : Int), .int .i64 ((l0_0.length : Int) + 1), undef, .pointer (some ⟨gb, 0, none⟩), .slice A0_0 l0_0.length c0_0, .int .i64 (l0_0.length : Int), undef, undef, undef], defers := [] }) (by show Act.put _ (some 8) _ = _; simp only [Act.put, List.setIfInBounds_toArray, List.set_cons_zero, List.set_cons_succ]) ?_
      (try simp only [List.setIfInBounds_toArray, List.set_cons_zero, List.set_cons_succ])
      refine pure_ (i := 6) (N := some 9) (v := .agg #[v5, v8]) (a' := { tmps := #[.agg #[.slice A0_0 l0_0.length c0_0, .slice A0_1 l0_1.length c0_1], .pointer (some ⟨gb, 0, none⟩), .pointer none, .pointer (some ⟨gb, 0, none⟩), .slice A0_0 l0_0.length c0_0, v5, .pointer (some ⟨gb, 1, none⟩), .slice A0_1 l0_1.length c0_1, v8, .agg #[v5, v8], .pointer (some ⟨gb, 0, none⟩), .slice A0_0 l0_0.length c0_0, .int .i64 (l0_0.length : Int), .int .i64 ((l0_0.length : Int) + 1), undef, .pointer (some ⟨gb, 0, none⟩), .slice A0_0 l0_0.length c0_0, .int .i64 (l0_0.length : Int), undef, undef, undef], defers := [] }) #[true, true, true, true, true, true, true, true, true, true, true, false, true, true, true, false, false, false, false] passage_op6 rfl (by kernel_rfl) (fun _ _ _ h => hQ _ _ _ _ _ h) (Or.inl ⟨by rfl, ?_⟩) (by simp only [Act.put, List.setIfInBounds_toArray, List.set_cons_zero, List.set_cons_succ]) ?_
      · intro w'
        obtain ⟨Ao5, co5, eo5⟩ := Kd.R_slice O5
        obtain ⟨Ao8, co8, eo8⟩ := Kd.R_slice ho
        rw [eo5, eo8]
        go_simp
        first | done | rfl
      exact h_2_5 v5 v8 W2 (below_then HB HB.size hb) BK2 (Kd.R_below O5 hb) (Kd.R_lower ho HB.size)
    case a11 =>
      refine Kd.R_make_step (Kd.int .i64) (w0 := W) W.heap.size 3 rfl (N := 14) rfl 23 _ _ rfl ((l0_0.length : Int) + 1) rfl rfl Tryd.underlying23 (.int .i64 0) 8 info3 rfl (by decide) (by omega) (0 : Int) (ok := fun _ => True) (okp := fun _ => True) rfl (fun _ hk => hk) trivial (by omega) (by omega) (Go.RowKit.Below.refl _ _) (Nat.le_refl _) ?_
      intro v14 W2 ho hb hg_ hn_
      rw [show ((l0_0.length : Int) + 1).toNat = l0_0.length + 1 by omega] at ho
      have BK2 := blk_below BK hb
      refine hK.out _ _ ⟨(blk_cell BK2 0).trans rfl, (blk_cell BK2 1).trans rfl⟩ (fun _ => ?_)
      refine norm_ (a' := { tmps := #[.agg #[.slice A0_0 l0_0.length c0_0, .slice A0_1 l0_1.length c0_1], .pointer (some ⟨gb, 0, none⟩), .pointer none, .pointer (some ⟨gb, 0, none⟩), .slice A0_0 l0_0.length c0_0, v5, .pointer (some ⟨gb, 1, none⟩), .slice A0_1 l0_1.length c0_1, undef, undef, .pointer (some ⟨gb, 0, none⟩), .slice A0_0 l0_0.length c0_0, .int .i64 (l0_0.length : Int), .int .i64 ((l0_0.length : Int) + 1), v14, .pointer (some ⟨gb, 0, none⟩), .slice A0_0 l0_0.length c0_0, .int .i64 (l0_0.length : Int), undef, undef, undef], defers := [] }) (by show Act.put _ (some 14) _ = _; simp only [Act.put, List.setIfInBounds_toArray, List.set_cons_zero, List.set_cons_succ]) ?_
      (try simp only [List.setIfInBounds_toArray, List.set_cons_zero, List.set_cons_succ])
      exact h_2_11 v5 v14 W2 (below_then HB HB.size hb) BK2 (Kd.R_below O5 hb) (Kd.R_lower ho HB.size) (apart_new O5 ho)
    case a15 =>
      refine Kd.R_make_step (Kd.int .i64) (w0 := W) W.heap.size 3 rfl (N := 18) rfl 23 _ _ rfl (l0_0.length : Int) rfl rfl Tryd.underlying23 (.int .i64 0) 8 info3 rfl (by decide) (by omega) (0 : Int) (ok := fun _ => True) (okp := fun _ => True) rfl (fun _ hk => hk) trivial (by omega) (by omega) (Go.RowKit.Below.refl _ _) (Nat.le_refl _) ?_
      intro v18 W2 ho hb hg_ hn_
      rw [Int.toNat_natCast] at ho
      have BK2 := blk_below BK hb
      refine hK.out _ _ ⟨(blk_cell BK2 0).trans rfl, (blk_cell BK2 1).trans rfl⟩ (fun _ => ?_)
      refine norm_ (a' := { tmps := #[.agg #[.slice A0_0 l0_0.length c0_0, .slice A0_1 l0_1.length c0_1], .pointer (some ⟨gb, 0, none⟩), .pointer none, .pointer (some ⟨gb, 0, none⟩), .slice A0_0 l0_0.length c0_0, v5, .pointer (some ⟨gb, 1, none⟩), .slice A0_1 l0_1.length c0_1, undef, undef, .pointer (some ⟨gb, 0, none⟩), .slice A0_0 l0_0.length c0_0, .int .i64 (l0_0.length : Int), .int .i64 ((l0_0.length : Int) + 1), undef, .pointer (some ⟨gb, 0, none⟩), .slice A0_0 l0_0.length c0_0, .int .i64 (l0_0.length : Int), v18, undef, undef], defers := [] }) (by show Act.put _ (some 18) _ = _; simp only [Act.put, List.setIfInBounds_toArray, List.set_cons_zero, List.set_cons_succ]) ?_
      (try simp only [List.setIfInBounds_toArray, List.set_cons_zero, List.set_cons_succ])
      exact h_2_15 v5 v18 W2 (below_then HB HB.size hb) BK2 (Kd.R_below O5 hb) (Kd.R_lower ho HB.size) (apart_new O5 ho)
  have h_11 : ∀ (v14 : Value) (W : World), Go.RowKit.Below w.heap.size w W → W.heap[gb]? = some (.cells #[.slice A0_0 l0_0.length c0_0, .slice A0_1 l0_1.length c0_1] 30 (0, 0)) → Kd.R (Kd.int .i64) 3 W w.heap.size (fun _ => True) v14 (List.replicate (l0_0.length + 1) (0 : Int)) → wpAnyLast Tryd.prog .any (opsOf Tryd.f49 1) Q (fun w' : World => w'.cell? ⟨gb, 0, none⟩ = some (.slice A0_0 l0_0.length c0_0) ∧ w'.cell? ⟨gb, 1, none⟩ = some (.slice A0_1 l0_1.length c0_1)) [] 7 #[true, true, false, true, true, false, false, true, true, true, true, true, true, true, true, false, false, false, false] { tmps := #[.agg #[.slice A0_0 l0_0.length c0_0, .slice A0_1 l0_1.length c0_1], .pointer (some ⟨gb, 0, none⟩), .pointer none, .pointer (some ⟨gb, 0, none⟩), .slice A0_0 l0_0.length c0_0, undef, .pointer (some ⟨gb, 1, none⟩), .slice A0_1 l0_1.length c0_1, undef, undef, .pointer (some ⟨gb, 0, none⟩), .slice A0_0 l0_0.length c0_0, .int .i64 (l0_0.length : Int), .int .i64 ((l0_0.length : Int) + 1), v14, .pointer (some ⟨gb, 0, none⟩), .slice A0_0 l0_0.length c0_0, .int .i64 (l0_0.length : Int), undef, undef, undef], defers := [] } W := by
    intro v14 W HB BK O14
    refine wpAnyLast_ready (rs := [2, 15]) (by kernel_rfl) (by simp) (AllReadyL.cons (i := 2) rfl (by decide) (fun K hK => ?a2) (AllReadyL.cons (i := 15) rfl (by decide) (fun K hK => ?a15) AllReadyL.nil))
    case a2 =>
      refine goes_ Tryd.func62 (by kernel_rfl) rfl #[.slice A0_0 l0_0.length c0_0] (by rfl) rfl rfl (by (try simp only [List.map_toArray, List.map_cons, List.map_nil]); first | done | rfl) ?_
      refine (slices_Clone_int_int.calls _ _ l0_0 l0_0 W (Kd.C_below hr0 HB) (by assumption) (by unfold slices_Clone_int_int.f; rw [if_pos (by omega)])).mono ?_
      rintro e W2 ⟨v5, rfl, ho, hb⟩
      refine ⟨_, rfl, ?_⟩
      have BK2 := blk_below BK hb
      refine hK.out _ _ ⟨(blk_cell BK2 0).trans rfl, (blk_cell BK2 1).trans rfl⟩ (fun _ => ?_)
      refine norm_ (a' := { tmps := #[.agg #[.slice A0_0 l0_0.length c0_0, .slice A0_1 l0_1.length c0_1], .pointer (some ⟨gb, 0, none⟩), .pointer none, .pointer (some ⟨gb, 0, none⟩), .slice A0_0 l0_0.length c0_0, v5, .pointer (some ⟨gb, 1, none⟩), .slice A0_1 l0_1.length c0_1, undef, undef, .pointer (some ⟨gb, 0, none⟩), .slice A0_0 l0_0.length c0_0, .int .i64 (l0_0.length : Int), .int .i64 ((l0_0.length : Int) + 1), v14, .pointer (some ⟨gb, 0, none⟩), .slice A0_0 l0_0.length c0_0, .int .i64 (l0_0.length : Int), undef, undef, undef], defers := [] }) (by show Act.put _ (some 5) _ = _; simp only [Act.put, List.setIfInBounds_toArray, List.set_cons_zero, List.set_cons_succ]) ?_
      (try simp only [List.setIfInBounds_toArray, List.set_cons_zero, List.set_cons_succ])
      exact h_2_11 v5 v14 W2 (below_then HB HB.size hb) BK2 (Kd.R_lower ho HB.size) (Kd.R_below O14 hb) (fun k h1 h2 => apart_new O14 ho k h2 h1)
    case a15 =>
      refine Kd.R_make_step (Kd.int .i64) (w0 := W) W.heap.size 3 rfl (N := 18) rfl 23 _ _ rfl (l0_0.length : Int) rfl rfl Tryd.underlying23 (.int .i64 0) 8 info3 rfl (by decide) (by omega) (0 : Int) (ok := fun _ => True) (okp := fun _ => True) rfl (fun _ hk => hk) trivial (by omega) (by omega) (Go.RowKit.Below.refl _ _) (Nat.le_refl _) ?_
      intro v18 W2 ho hb hg_ hn_
      rw [Int.toNat_natCast] at ho
      have BK2 := blk_below BK hb
      refine hK.out _ _ ⟨(blk_cell BK2 0).trans rfl, (blk_cell BK2 1).trans rfl⟩ (fun _ => ?_)
      refine norm_ (a' := { tmps := #[.agg #[.slice A0_0 l0_0.length c0_0, .slice A0_1 l0_1.length c0_1], .pointer (some ⟨gb, 0, none⟩), .pointer none, .pointer (some ⟨gb, 0, none⟩), .slice A0_0 l0_0.length c0_0, undef, .pointer (some ⟨gb, 1, none⟩), .slice A0_1 l0_1.length c0_1, undef, undef, .pointer (some ⟨gb, 0, none⟩), .slice A0_0 l0_0.length c0_0, .int .i64 (l0_0.length : Int), .int .i64 ((l0_0.length : Int) + 1), v14, .pointer (some ⟨gb, 0, none⟩), .slice A0_0 l0_0.length c0_0, .int .i64 (l0_0.length : Int), v18, undef, undef], defers := [] }) (by show Act.put _ (some 18) _ = _; simp only [Act.put, List.setIfInBounds_toArray, List.set_cons_zero, List.set_cons_succ]) ?_
      (try simp only [List.setIfInBounds_toArray, List.set_cons_zero, List.set_cons_succ])
      exact h_11_15 v14 v18 W2 (below_then HB HB.size hb) BK2 (Kd.R_below O14 hb) (Kd.R_lower ho HB.size) (apart_new O14 ho)
  have h_15 : ∀ (v18 : Value) (W : World), Go.RowKit.Below w.heap.size w W → W.heap[gb]? = some (.cells #[.slice A0_0 l0_0.length c0_0, .slice A0_1 l0_1.length c0_1] 30 (0, 0)) → Kd.R (Kd.int .i64) 3 W w.heap.size (fun _ => True) v18 (List.replicate l0_0.length (0 : Int)) → wpAnyLast Tryd.prog .any (opsOf Tryd.f49 1) Q (fun w' : World => w'.cell? ⟨gb, 0, none⟩ = some (.slice A0_0 l0_0.length c0_0) ∧ w'.cell? ⟨gb, 1, none⟩ = some (.slice A0_1 l0_1.length c0_1)) [] 7 #[true, true, false, true, true, false, false, true, true, true, true, false, true, true, true, true, false, false, false] { tmps := #[.agg #[.slice A0_0 l0_0.length c0_0, .slice A0_1 l0_1.length c0_1], .pointer (some ⟨gb, 0, none⟩), .pointer none, .pointer (some ⟨gb, 0, none⟩), .slice A0_0 l0_0.length c0_0, undef, .pointer (some ⟨gb, 1, none⟩), .slice A0_1 l0_1.length c0_1, undef, undef, .pointer (some ⟨gb, 0, none⟩), .slice A0_0 l0_0.length c0_0, .int .i64 (l0_0.length : Int), .int .i64 ((l0_0.length : Int) + 1), undef, .pointer (some ⟨gb, 0, none⟩), .slice A0_0 l0_0.length c0_0, .int .i64 (l0_0.length : Int), v18, undef, undef], defers := [] } W := by
    intro v18 W HB BK O18
    refine wpAnyLast_ready (rs := [2, 11]) (by kernel_rfl) (by simp) (AllReadyL.cons (i := 2) rfl (by decide) (fun K hK => ?a2) (AllReadyL.cons (i := 11) rfl (by decide) (fun K hK => ?a11) AllReadyL.nil))
    case a2 =>
      refine goes_ Tryd.func62 (by kernel_rfl) rfl #[.slice A0_0 l0_0.length c0_0] (by rfl) rfl rfl (by (try simp only [List.map_toArray, List.map_cons, List.map_nil]); first | done | rfl) ?_
      refine (slices_Clone_int_int.calls _ _ l0_0 l0_0 W (Kd.C_below hr0 HB) (by assumption) (by unfold slices_Clone_int_int.f; rw [if_pos (by omega)])).mono ?_
      rintro e W2 ⟨v5, rfl, ho, hb⟩
      refine ⟨_, rfl, ?_⟩
      have BK2 := blk_below BK hb
      refine hK.out _ _ ⟨(blk_cell BK2 0).trans rfl, (blk_cell BK2 1).trans rfl⟩ (fun _ => ?_)
      refine norm_ (a' := { tmps := #[.agg #[.slice A0_0 l0_0.length c0_0, .slice A0_1 l0_1.length c0_1], .pointer (some ⟨gb, 0, none⟩), .pointer none, .pointer (some ⟨gb, 0, none⟩), .slice A0_0 l0_0.length c0_0, v5, .pointer (some ⟨gb, 1, none⟩), .slice A0_1 l0_1.length c0_1, undef, undef, .pointer (some ⟨gb, 0, none⟩), .slice A0_0 l0_0.length c0_0, .int .i64 (l0_0.length : Int), .int .i64 ((l0_0.length : Int) + 1), undef, .pointer (some ⟨gb, 0, none⟩), .slice A0_0 l0_0.length c0_0, .int .i64 (l0_0.length : Int), v18, undef, undef], defers := [] }) (by show Act.put _ (some 5) _ = _; simp only [Act.put, List.setIfInBounds_toArray, List.set_cons_zero, List.set_cons_succ]) ?_
      (try simp only [List.setIfInBounds_toArray, List.set_cons_zero, List.set_cons_succ])
      exact h_2_15 v5 v18 W2 (below_then HB HB.size hb) BK2 (Kd.R_lower ho HB.size) (Kd.R_below O18 hb) (fun k h1 h2 => apart_new O18 ho k h2 h1)
    case a11 =>
      refine Kd.R_make_step (Kd.int .i64) (w0 := W) W.heap.size 3 rfl (N := 14) rfl 23 _ _ rfl ((l0_0.length : Int) + 1) rfl rfl Tryd.underlying23 (.int .i64 0) 8 info3 rfl (by decide) (by omega) (0 : Int) (ok := fun _ => True) (okp := fun _ => True) rfl (fun _ hk => hk) trivial (by omega) (by omega) (Go.RowKit.Below.refl _ _) (Nat.le_refl _) ?_
      intro v14 W2 ho hb hg_ hn_
      rw [show ((l0_0.length : Int) + 1).toNat = l0_0.length + 1 by omega] at ho
      have BK2 := blk_below BK hb
      refine hK.out _ _ ⟨(blk_cell BK2 0).trans rfl, (blk_cell BK2 1).trans rfl⟩ (fun _ => ?_)
      refine norm_ (a' := { tmps := #[.agg #[.slice A0_0 l0_0.length c0_0, .slice A0_1 l0_1.length c0_1], .pointer (some ⟨gb, 0, none⟩), .pointer none, .pointer (some ⟨gb, 0, none⟩), .slice A0_0 l0_0.length c0_0, undef, .pointer (some ⟨gb, 1, none⟩), .slice A0_1 l0_1.length c0_1, undef, undef, .pointer (some ⟨gb, 0, none⟩), .slice A0_0 l0_0.length c0_0, .int .i64 (l0_0.length : Int), .int .i64 ((l0_0.length : Int) + 1), v14, .pointer (some ⟨gb, 0, none⟩), .slice A0_0 l0_0.length c0_0, .int .i64 (l0_0.length : Int), v18, undef, undef], defers := [] }) (by show Act.put _ (some 14) _ = _; simp only [Act.put, List.setIfInBounds_toArray, List.set_cons_zero, List.set_cons_succ]) ?_
      (try simp only [List.setIfInBounds_toArray, List.set_cons_zero, List.set_cons_succ])
      exact h_11_15 v14 v18 W2 (below_then HB HB.size hb) BK2 (Kd.R_lower ho HB.size) (Kd.R_below O18 hb) (fun k h1 h2 => apart_new O18 ho k h2 h1)
  refine wpAnyLast_ready (rs := [2, 11, 15]) (by kernel_rfl) (by simp) (AllReadyL.cons (i := 2) rfl (by decide) (fun K hK => ?a2) (AllReadyL.cons (i := 11) rfl (by decide) (fun K hK => ?a11) (AllReadyL.cons (i := 15) rfl (by decide) (fun K hK => ?a15) AllReadyL.nil)))
  case a2 =>
    refine goes_ Tryd.func62 (by kernel_rfl) rfl #[.slice A0_0 l0_0.length c0_0] (by rfl) rfl rfl (by (try simp only [List.map_toArray, List.map_cons, List.map_nil]); first | done | rfl) ?_
    refine (slices_Clone_int_int.calls _ _ l0_0 l0_0 W (Kd.C_below hr0 HB) (by assumption) (by unfold slices_Clone_int_int.f; rw [if_pos (by omega)])).mono ?_
    rintro e W2 ⟨v5, rfl, ho, hb⟩
    refine ⟨_, rfl, ?_⟩
    have BK2 := blk_below BK hb
    refine hK.out _ _ ⟨(blk_cell BK2 0).trans rfl, (blk_cell BK2 1).trans rfl⟩ (fun _ => ?_)
    refine norm_ (a' := { tmps := #[.agg #[.slice A0_0 l0_0.length c0_0, .slice A0_1 l0_1.length c0_1], .pointer (some ⟨gb, 0, none⟩), .pointer none, .pointer (some ⟨gb, 0, none⟩), .slice A0_0 l0_0.length c0_0, v5, .pointer (some ⟨gb, 1, none⟩), .slice A0_1 l0_1.length c0_1, undef, undef, .pointer (some ⟨gb, 0, none⟩), .slice A0_0 l0_0.length c0_0, .int .i64 (l0_0.length : Int), .int .i64 ((l0_0.length : Int) + 1), undef, .pointer (some ⟨gb, 0, none⟩), .slice A0_0 l0_0.length c0_0, .int .i64 (l0_0.length : Int), undef, undef, undef], defers := [] }) (by show Act.put _ (some 5) _ = _; simp only [Act.put, List.setIfInBounds_toArray, List.set_cons_zero, List.set_cons_succ]) ?_
    (try simp only [List.setIfInBounds_toArray, List.set_cons_zero, List.set_cons_succ])
    exact h_2 v5 W2 (below_then HB HB.size hb) BK2 (Kd.R_lower ho HB.size)
  case a11 =>
    refine Kd.R_make_step (Kd.int .i64) (w0 := W) W.heap.size 3 rfl (N := 14) rfl 23 _ _ rfl ((l0_0.length : Int) + 1) rfl rfl Tryd.underlying23 (.int .i64 0) 8 info3 rfl (by decide) (by omega) (0 : Int) (ok := fun _ => True) (okp := fun _ => True) rfl (fun _ hk => hk) trivial (by omega) (by omega) (Go.RowKit.Below.refl _ _) (Nat.le_refl _) ?_
    intro v14 W2 ho hb hg_ hn_
    rw [show ((l0_0.length : Int) + 1).toNat = l0_0.length + 1 by omega] at ho
    have BK2 := blk_below BK hb
    refine hK.out _ _ ⟨(blk_cell BK2 0).trans rfl, (blk_cell BK2 1).trans rfl⟩ (fun _ => ?_)
    refine norm_ (a' := { tmps := #[.agg #[.slice A0_0 l0_0.length c0_0, .slice A0_1 l0_1.length c0_1], .pointer (some ⟨gb, 0, none⟩), .pointer none, .pointer (some ⟨gb, 0, none⟩), .slice A0_0 l0_0.length c0_0, undef, .pointer (some ⟨gb, 1, none⟩), .slice A0_1 l0_1.length c0_1, undef, undef, .pointer (some ⟨gb, 0, none⟩), .slice A0_0 l0_0.length c0_0, .int .i64 (l0_0.length : Int), .int .i64 ((l0_0.length : Int) + 1), v14, .pointer (some ⟨gb, 0, none⟩), .slice A0_0 l0_0.length c0_0, .int .i64 (l0_0.length : Int), undef, undef, undef], defers := [] }) (by show Act.put _ (some 14) _ = _; simp only [Act.put, List.setIfInBounds_toArray, List.set_cons_zero, List.set_cons_succ]) ?_
    (try simp only [List.setIfInBounds_toArray, List.set_cons_zero, List.set_cons_succ])
    exact h_11 v14 W2 (below_then HB HB.size hb) BK2 (Kd.R_lower ho HB.size)
  case a15 =>
    refine Kd.R_make_step (Kd.int .i64) (w0 := W) W.heap.size 3 rfl (N := 18) rfl 23 _ _ rfl (l0_0.length : Int) rfl rfl Tryd.underlying23 (.int .i64 0) 8 info3 rfl (by decide) (by omega) (0 : Int) (ok := fun _ => True) (okp := fun _ => True) rfl (fun _ hk => hk) trivial (by omega) (by omega) (Go.RowKit.Below.refl _ _) (Nat.le_refl _) ?_
    intro v18 W2 ho hb hg_ hn_
    rw [Int.toNat_natCast] at ho
    have BK2 := blk_below BK hb
    refine hK.out _ _ ⟨(blk_cell BK2 0).trans rfl, (blk_cell BK2 1).trans rfl⟩ (fun _ => ?_)
    refine norm_ (a' := { tmps := #[.agg #[.slice A0_0 l0_0.length c0_0, .slice A0_1 l0_1.length c0_1], .pointer (some ⟨gb, 0, none⟩), .pointer none, .pointer (some ⟨gb, 0, none⟩), .slice A0_0 l0_0.length c0_0, undef, .pointer (some ⟨gb, 1, none⟩), .slice A0_1 l0_1.length c0_1, undef, undef, .pointer (some ⟨gb, 0, none⟩), .slice A0_0 l0_0.length c0_0, .int .i64 (l0_0.length : Int), .int .i64 ((l0_0.length : Int) + 1), undef, .pointer (some ⟨gb, 0, none⟩), .slice A0_0 l0_0.length c0_0, .int .i64 (l0_0.length : Int), v18, undef, undef], defers := [] }) (by show Act.put _ (some 18) _ = _; simp only [Act.put, List.setIfInBounds_toArray, List.set_cons_zero, List.set_cons_succ]) ?_
    (try simp only [List.setIfInBounds_toArray, List.set_cons_zero, List.set_cons_succ])
    exact h_15 v18 W2 (below_then HB HB.size hb) BK2 (Kd.R_lower ho HB.size)
theorem passage_op16 : (opsOf Tryd.f49 1)[16]? = some { dst := some 19, op := Op.build 51 #[(0, Operand.tmp 9), (1, Operand.tmp 14), (2, Operand.tmp 18)], type := 51, pos := "l8_lock.go:45", after := #[{ on := 6, ground := Ground.data }, { on := 11, ground := Ground.data }, { on := 15, ground := Ground.data }], guard := none } := by kernel_rfl
theorem passage_op17 : (opsOf Tryd.f49 1)[17]? = some { dst := some 20, op := Op.box 51 (Operand.tmp 19), type := 47, pos := "l8_lock.go:45", after := #[{ on := 16, ground := Ground.data }], guard := none } := by kernel_rfl
theorem passage_op18 : (opsOf Tryd.f49 1)[18]? = some { dst := some 2, op := Op.assign (Operand.tmp 20), type := 47, pos := "l8_lock.go:45", after := #[{ on := 17, ground := Ground.data }, { on := 5, ground := Ground.chain }, { on := 0, ground := Ground.phase }, { on := 1, ground := Ground.phase }, { on := 2, ground := Ground.phase }, { on := 3, ground := Ground.phase }, { on := 4, ground := Ground.phase }, { on := 5, ground := Ground.phase }, { on := 6, ground := Ground.phase }, { on := 7, ground := Ground.phase }, { on := 8, ground := Ground.phase }, { on := 9, ground := Ground.phase }, { on := 10, ground := Ground.phase }, { on := 11, ground := Ground.phase }, { on := 12, ground := Ground.phase }, { on := 13, ground := Ground.phase }, { on := 14, ground := Ground.phase }, { on := 15, ground := Ground.phase }, { on := 16, ground := Ground.phase }, { on := 17, ground := Ground.phase }], guard := none } := by kernel_rfl
set_option maxHeartbeats 4000000 in
set_option maxRecDepth 100000 in
theorem impl_passageOf.calls (A0_0 : Option Addr) (c0_0 : Nat) (l0_0 : List Int) (A0_1 : Option Addr) (c0_1 : Nat) (l0_1 : List Bool) (w : World) (hr0 : Kd.C (Kd.int .i64) w A0_0 l0_0.length l0_0) (hc0 : l0_0.length ≤ c0_0) (hr1 : Kd.C Kd.bool w A0_1 l0_1.length l0_1) (hc1 : l0_1.length ≤ c0_1) (hl0 : l0_0.length ≤ 1000) (hl1 : l0_1.length ≤ 1000) :
    Calls Tryd.prog 49 #[.agg #[.slice A0_0 l0_0.length c0_0, .slice A0_1 l0_1.length c0_1]] w fun e w' => ∃ (g : Nat) (v5 v8 v14 v18 : Value), e = .returned (.pointer (some ⟨g, 0, none⟩)) ∧ w.heap.size ≤ g ∧ w'.heap[g]? = some (.cells #[v5, v8, v14, v18] 51 (0, 0)) ∧ Go.RowKit.Below w.heap.size w w' ∧ Kd.R (Kd.int .i64) 3 w' w.heap.size (fun _ => True) v5 l0_0 ∧ Kd.R Kd.bool 4 w' w.heap.size (fun _ => True) v8 l0_1 ∧ Kd.R (Kd.int .i64) 3 w' w.heap.size (fun _ => True) v14 (List.replicate (l0_0.length + 1) (0 : Int)) ∧ Kd.R (Kd.int .i64) 3 w' w.heap.size (fun _ => True) v18 (List.replicate l0_0.length (0 : Int)) ∧ (∀ k, v5.ownBlock = some k → v14.ownBlock ≠ some k) ∧ (∀ k, v5.ownBlock = some k → v18.ownBlock ≠ some k) ∧ (∀ k, v14.ownBlock = some k → v18.ownBlock ≠ some k) := by
  have HB := Aside0.mk (below_alloc (Go.RowKit.Below.refl w.heap.size w) (.cells #[.slice A0_0 l0_0.length c0_0, .slice A0_1 l0_1.length c0_1] 30))
  have BK := Aside0.mk (hw_new0 w (.cells #[.slice A0_0 l0_0.length c0_0, .slice A0_1 l0_1.length c0_1] 30))
  have e1 : wrap64 ((l0_0.length : Int) + 1) = (l0_0.length : Int) + 1 := by unfold wrap64; omega
  have hp := Aside0.mk (fun Q hQ hfin => passage_region A0_0 c0_0 l0_0 A0_1 c0_1 l0_1 w.heap.size w Q hQ hr0 hc0 hr1 hc1 hl0 hl1 hfin ((w.alloc (.cells #[.slice A0_0 l0_0.length c0_0, .slice A0_1 l0_1.length c0_1] 30)).drew) (below_drew1 HB.out) (blk_drew BK.out))
  clear hr0 hr1 hc0 hc1 hl0 hl1
  go_enter Tryd.func49, Tryd.ntmps49
  go_wp2
  refine start_ (n := 19) (S := fun w' => w'.cell? ⟨w.heap.size, 0, none⟩ = some (.slice A0_0 l0_0.length c0_0) ∧ w'.cell? ⟨w.heap.size, 1, none⟩ = some (.slice A0_1 l0_1.length c0_1)) (ds := []) #[false, false, false, false, false, false, false, false, false, false, false, false, false, false, false, false, false, false, false] (by kernel_rfl) rfl rfl ⟨(blk_cell BK.out 0).trans rfl, (blk_cell BK.out 1).trans rfl⟩ (fun hHeld => ?_)
  refine pure_ (i := 0) (N := some 3) (v := ?_) (a' := ?_) #[true, false, false, false, false, false, false, false, false, false, false, false, false, false, false, false, false, false, false] rfl rfl (by kernel_rfl) (fun _ _ _ h => h) (Or.inl ⟨by rfl, ?_⟩) ?_ ?_
  rotate_left
  · intro w'
    go_simp
    with_reducible rfl
  rotate_left
  · simp only [Act.put, List.setIfInBounds_toArray, List.set_cons_zero, List.set_cons_succ, i64_w, i32_w]
    rfl
  refine take_ (i := 1) (N := some 4) (v := ?_) (a' := ?_) #[true, true, false, false, false, false, false, false, false, false, false, false, false, false, false, false, false, false, false] rfl rfl (by kernel_rfl) (fun _ _ _ h => h) (Or.inl ⟨by rfl, ?_⟩) hHeld ?_ ?_
  rotate_left
  · rintro w' ⟨s0, s1⟩
    go_simp
    with_reducible rfl
  rotate_left
  · simp only [Act.put, List.setIfInBounds_toArray, List.set_cons_zero, List.set_cons_succ, i64_w, i32_w]
    rfl
  refine pure_ (i := 3) (N := some 6) (v := ?_) (a' := ?_) #[true, true, false, true, false, false, false, false, false, false, false, false, false, false, false, false, false, false, false] rfl rfl (by kernel_rfl) (fun _ _ _ h => h) (Or.inl ⟨by rfl, ?_⟩) ?_ ?_
  rotate_left
  · intro w'
    go_simp
    with_reducible rfl
  rotate_left
  · simp only [Act.put, List.setIfInBounds_toArray, List.set_cons_zero, List.set_cons_succ, i64_w, i32_w]
    rfl
  refine take_ (i := 4) (N := some 7) (v := ?_) (a' := ?_) #[true, true, false, true, true, false, false, false, false, false, false, false, false, false, false, false, false, false, false] rfl rfl (by kernel_rfl) (fun _ _ _ h => h) (Or.inl ⟨by rfl, ?_⟩) hHeld ?_ ?_
  rotate_left
  · rintro w' ⟨s0, s1⟩
    go_simp
    with_reducible rfl
  rotate_left
  · simp only [Act.put, List.setIfInBounds_toArray, List.set_cons_zero, List.set_cons_succ, i64_w, i32_w]
    rfl
  refine pure_ (i := 7) (N := some 10) (v := ?_) (a' := ?_) #[true, true, false, true, true, false, false, true, false, false, false, false, false, false, false, false, false, false, false] rfl rfl (by kernel_rfl) (fun _ _ _ h => h) (Or.inl ⟨by rfl, ?_⟩) ?_ ?_
  rotate_left
  · intro w'
    go_simp
    with_reducible rfl
  rotate_left
  · simp only [Act.put, List.setIfInBounds_toArray, List.set_cons_zero, List.set_cons_succ, i64_w, i32_w]
    rfl
  refine take_ (i := 8) (N := some 11) (v := ?_) (a' := ?_) #[true, true, false, true, true, false, false, true, true, false, false, false, false, false, false, false, false, false, false] rfl rfl (by kernel_rfl) (fun _ _ _ h => h) (Or.inl ⟨by rfl, ?_⟩) hHeld ?_ ?_
  rotate_left
  · rintro w' ⟨s0, s1⟩
    go_simp
    with_reducible rfl
  rotate_left
  · simp only [Act.put, List.setIfInBounds_toArray, List.set_cons_zero, List.set_cons_succ, i64_w, i32_w]
    rfl
  refine pure_ (i := 9) (N := some 12) (v := ?_) (a' := ?_) #[true, true, false, true, true, false, false, true, true, true, false, false, false, false, false, false, false, false, false] rfl rfl (by kernel_rfl) (fun _ _ _ h => h) (Or.inl ⟨by rfl, ?_⟩) ?_ ?_
  rotate_left
  · intro w'
    go_simp
    with_reducible rfl
  rotate_left
  · simp only [Act.put, List.setIfInBounds_toArray, List.set_cons_zero, List.set_cons_succ, i64_w, i32_w]
    rfl
  refine pure_ (i := 10) (N := some 13) (v := ?_) (a' := ?_) #[true, true, false, true, true, false, false, true, true, true, true, false, false, false, false, false, false, false, false] rfl rfl (by kernel_rfl) (fun _ _ _ h => h) (Or.inl ⟨by rfl, ?_⟩) ?_ ?_
  rotate_left
  · intro w'
    go_simp
    with_reducible rfl
  rotate_left
  · simp only [Act.put, List.setIfInBounds_toArray, List.set_cons_zero, List.set_cons_succ, i64_w, i32_w]
    rfl
  refine pure_ (i := 12) (N := some 15) (v := ?_) (a' := ?_) #[true, true, false, true, true, false, false, true, true, true, true, false, true, false, false, false, false, false, false] rfl rfl (by kernel_rfl) (fun _ _ _ h => h) (Or.inl ⟨by rfl, ?_⟩) ?_ ?_
  rotate_left
  · intro w'
    go_simp
    with_reducible rfl
  rotate_left
  · simp only [Act.put, List.setIfInBounds_toArray, List.set_cons_zero, List.set_cons_succ, i64_w, i32_w]
    rfl
  refine take_ (i := 13) (N := some 16) (v := ?_) (a' := ?_) #[true, true, false, true, true, false, false, true, true, true, true, false, true, true, false, false, false, false, false] rfl rfl (by kernel_rfl) (fun _ _ _ h => h) (Or.inl ⟨by rfl, ?_⟩) hHeld ?_ ?_
  rotate_left
  · rintro w' ⟨s0, s1⟩
    go_simp
    with_reducible rfl
  rotate_left
  · simp only [Act.put, List.setIfInBounds_toArray, List.set_cons_zero, List.set_cons_succ, i64_w, i32_w]
    rfl
  refine pure_ (i := 14) (N := some 17) (v := ?_) (a' := ?_) #[true, true, false, true, true, false, false, true, true, true, true, false, true, true, true, false, false, false, false] rfl rfl (by kernel_rfl) (fun _ _ _ h => h) (Or.inl ⟨by rfl, ?_⟩) ?_ ?_
  rotate_left
  · intro w'
    go_simp
    with_reducible rfl
  rotate_left
  · simp only [Act.put, List.setIfInBounds_toArray, List.set_cons_zero, List.set_cons_succ, i64_w, i32_w]
    rfl
  rw [e1]
  refine hp.out _ ?hq ?hf
  case hq =>
    intro c a d v W h
    cases d <;> exact h
  clear hp HB BK
  intro v5 v8 v14 v18 W HB BK O5 O8 O14 O18 N5_14 N5_18 N14_18
  obtain ⟨Ao5, co5, eo5⟩ := Kd.R_slice O5
  obtain ⟨Ao8, co8, eo8⟩ := Kd.R_slice O8
  obtain ⟨Ao14, co14, eo14⟩ := Kd.R_slice O14
  obtain ⟨Ao18, co18, eo18⟩ := Kd.R_slice O18
  have hHeld := And.intro ((blk_cell BK 0).trans rfl) ((blk_cell BK 1).trans rfl)
  refine pure_ (i := 16) (N := some 19) (v := .agg #[v5, v8, v14, v18]) (a' := { tmps := #[.agg #[.slice A0_0 l0_0.length c0_0, .slice A0_1 l0_1.length c0_1], .pointer (some ⟨w.heap.size, 0, none⟩), .pointer none, .pointer (some ⟨w.heap.size, 0, none⟩), .slice A0_0 l0_0.length c0_0, v5, .pointer (some ⟨w.heap.size, 1, none⟩), .slice A0_1 l0_1.length c0_1, v8, .agg #[v5, v8], .pointer (some ⟨w.heap.size, 0, none⟩), .slice A0_0 l0_0.length c0_0, .int .i64 (l0_0.length : Int), .int .i64 ((l0_0.length : Int) + 1), v14, .pointer (some ⟨w.heap.size, 0, none⟩), .slice A0_0 l0_0.length c0_0, .int .i64 (l0_0.length : Int), v18, .agg #[v5, v8, v14, v18], undef], defers := [] }) #[true, true, true, true, true, true, true, true, true, true, true, true, true, true, true, true, true, false, false] passage_op16 rfl (by kernel_rfl) (fun _ _ _ h => h) (Or.inl ⟨by rfl, ?_⟩) (by simp only [Act.put, List.setIfInBounds_toArray, List.set_cons_zero, List.set_cons_succ]) ?_
  · intro w'
    rw [eo5, eo8, eo14, eo18]
    go_simp
    first | done | rfl
  refine one_ (i := 17) (N := some 20) #[true, true, true, true, true, true, true, true, true, true, true, true, true, true, true, true, true, true, false] passage_op17 rfl (by kernel_rfl) (by decide) (fun K hK => ?_)
  refine value_ (v := .pointer (some ⟨W.heap.size, 0, none⟩)) (w1 := W.alloc (.cells #[v5, v8, v14, v18] 51)) rfl rfl ?_ ?_
  · go_simp
    first | done | rfl
  refine hK.out _ _ ⟨(blk_cell (blk_alloc BK _) 0).trans rfl, (blk_cell (blk_alloc BK _) 1).trans rfl⟩ (fun _ => ?_)
  clear hK K
  refine norm_ (a' := { tmps := #[.agg #[.slice A0_0 l0_0.length c0_0, .slice A0_1 l0_1.length c0_1], .pointer (some ⟨w.heap.size, 0, none⟩), .pointer none, .pointer (some ⟨w.heap.size, 0, none⟩), .slice A0_0 l0_0.length c0_0, v5, .pointer (some ⟨w.heap.size, 1, none⟩), .slice A0_1 l0_1.length c0_1, v8, .agg #[v5, v8], .pointer (some ⟨w.heap.size, 0, none⟩), .slice A0_0 l0_0.length c0_0, .int .i64 (l0_0.length : Int), .int .i64 ((l0_0.length : Int) + 1), v14, .pointer (some ⟨w.heap.size, 0, none⟩), .slice A0_0 l0_0.length c0_0, .int .i64 (l0_0.length : Int), v18, .agg #[v5, v8, v14, v18], .pointer (some ⟨W.heap.size, 0, none⟩)], defers := [] }) (by show Act.put _ (some 20) _ = _; simp only [Act.put, List.setIfInBounds_toArray, List.set_cons_zero, List.set_cons_succ]) ?_
  refine pure_ (i := 18) (N := some 2) (v := .pointer (some ⟨W.heap.size, 0, none⟩)) (a' := { tmps := #[.agg #[.slice A0_0 l0_0.length c0_0, .slice A0_1 l0_1.length c0_1], .pointer (some ⟨w.heap.size, 0, none⟩), .pointer (some ⟨W.heap.size, 0, none⟩), .pointer (some ⟨w.heap.size, 0, none⟩), .slice A0_0 l0_0.length c0_0, v5, .pointer (some ⟨w.heap.size, 1, none⟩), .slice A0_1 l0_1.length c0_1, v8, .agg #[v5, v8], .pointer (some ⟨w.heap.size, 0, none⟩), .slice A0_0 l0_0.length c0_0, .int .i64 (l0_0.length : Int), .int .i64 ((l0_0.length : Int) + 1), v14, .pointer (some ⟨w.heap.size, 0, none⟩), .slice A0_0 l0_0.length c0_0, .int .i64 (l0_0.length : Int), v18, .agg #[v5, v8, v14, v18], .pointer (some ⟨W.heap.size, 0, none⟩)], defers := [] }) #[true, true, true, true, true, true, true, true, true, true, true, true, true, true, true, true, true, true, true] passage_op18 rfl (by kernel_rfl) (fun _ _ _ h => h) (Or.inl ⟨by rfl, ?_⟩) (by simp only [Act.put, List.setIfInBounds_toArray, List.set_cons_zero, List.set_cons_succ]) ?_
  · intro w'
    go_simp
    first | done | rfl
  refine done_ (by kernel_rfl) ?_
  go_wp2
  go_ret
  refine ⟨W.heap.size, v5, v8, v14, v18, rfl, HB.size, hw_new0 _ _, below_alloc HB _, Kd.R_alloc O5 _, Kd.R_alloc O8 _, Kd.R_alloc O14 _, Kd.R_alloc O18 _, N5_14, N5_18, N14_18⟩

theorem passage.calls (A0_0 : Option Addr) (c0_0 : Nat) (l0_0 : List Int) (A0_1 : Option Addr) (c0_1 : Nat) (l0_1 : List Bool) (w : World) (hr0 : Kd.C (Kd.int .i64) w A0_0 l0_0.length l0_0) (hc0 : l0_0.length ≤ c0_0) (hr1 : Kd.C Kd.bool w A0_1 l0_1.length l0_1) (hc1 : l0_1.length ≤ c0_1) (hl0 : l0_0.length ≤ 1000) (hl1 : l0_1.length ≤ 1000) (hlen : l0_1.length = l0_0.length) (hpos : 1 ≤ l0_0.length) :
    Calls Tryd.prog 49 #[.agg #[.slice A0_0 l0_0.length c0_0, .slice A0_1 l0_1.length c0_1]] w fun e w' => ∃ (p : PA) (g5 : Nat), e = .returned (.pointer (some ⟨p.g, 0, none⟩)) ∧ p.A5 = some ⟨g5, 0, none⟩ ∧ p.n = l0_0.length ∧ w.heap.size ≤ p.g ∧ Pas 51 w.heap.size p (newS l0_0 l0_1) w' ∧ Kd.R (Kd.int .i64) 3 w' w.heap.size (fun k => k = g5) (.slice (some ⟨g5, 0, none⟩) l0_0.length p.c5) l0_0 ∧ ¬ p.S g5 ∧ Below w.heap.size w w' := by
  refine (impl_passageOf.calls A0_0 c0_0 l0_0 A0_1 c0_1 l0_1 w hr0 hc0 hr1 hc1 hl0 hl1).mono ?_
  rintro e w' ⟨g, v5, v8, v14, v18, rfl, hg, hh, hb, o5, o8, o14, o18, ne1, ne2, ne3⟩
  obtain ⟨g5, c5, cu5, rfl, hb5, hh5⟩ := blockI o5 (by omega)
  obtain ⟨g8, c8, cu8, rfl, hb8, hh8⟩ := blockB o8 (by omega)
  obtain ⟨g14, c14, cu14, rfl, hb14, hh14⟩ := blockI o14 (by simp)
  obtain ⟨g18, c18, cu18, rfl, hb18, hh18⟩ := blockI o18 (by simp; omega)
  rw [hlen] at hh o8
  rw [List.length_replicate, List.length_replicate] at hh
  rw [List.length_replicate] at o14 o18
  have hn5 : ¬ PA.S ⟨g, some ⟨g5, 0, none⟩, c5, g8, c8, g14, c14, g18, c18, l0_0.length⟩ g5 := fun hk => by
    rcases hk with e | e | e
    · exact blk_ne hh5 hh8 (by decide) e
    · exact ne1 g5 (by simp [Value.ownBlock]) (by simp [Value.ownBlock]; exact e.symm)
    · exact ne2 g5 (by simp [Value.ownBlock]) (by simp [Value.ownBlock]; exact e.symm)
  refine ⟨⟨g, some ⟨g5, 0, none⟩, c5, g8, c8, g14, c14, g18, c18, l0_0.length⟩, g5, rfl, rfl, rfl, hg, ?_, okI o5, hn5, hb⟩
  exact { box := hh
          lf := Kd.C_kept_own (okI o5) (fun k hk => by rw [hk]; exact hn5)
          r8 := okB o8
          r14 := okI o14
          r18 := okI o18
          a1 := blk_ne hh8 hh14 (by decide)
          a2 := blk_ne hh8 hh18 (by decide)
          a3 := fun e => ne3 g14 (by simp [Value.ownBlock]) (by simp [Value.ownBlock, show g18 = g14 from e.symm])
          ag := fun hk => by
            rcases hk with e | e | e
            · exact blk_ne hh hh8 (by decide) e
            · exact blk_ne hh hh14 (by decide) e
            · exact blk_ne hh hh18 (by decide) e
          hc := (Kd.R_reads' o5).2.1
          hn := ⟨hpos, hl0⟩ }
set_option maxHeartbeats 8000000 in
set_option maxRecDepth 100000 in
theorem put_true.calls (w0 : World) (p : PA) (s : PS) (i : Int) (w : World) (hP : Pas 51 w0.heap.size p s w) (hB : Below w0.heap.size w0 w) (h0 : 0 ≤ i) (h1 : i < (p.n : Int)) :
    Calls Tryd.prog 71 #[.pointer (some ⟨p.g, 0, none⟩), .int .i64 i, .bool true] w fun e w' => e = .returned (.tuple #[]) ∧ Pas 51 w0.heap.size p (putS s i true) w' ∧ Below w0.heap.size w0 w' ∧ Kept w w' p.S := by
  obtain ⟨g, A5, c5, g8, c8, g14, c14, g18, c18, n⟩ := p
  have hn := hP.hn.2
  obtain ⟨b0, b1, b2, b3⟩ := hP.cells
  obtain ⟨h8, hf8⟩ := hP.at8 i h0 h1
  dsimp only at h1 hn b0 b1 b2 b3 h8 hf8 ⊢
  have q0 := eq_true h0
  have q1 := eq_true h1
  have q2 : (0 ≤ i + 1) = True := eq_true (by omega)
  have q3 : (i + 1 < (n : Int) + 1) = True := eq_true (by omega)
  have q4 : (i < (n : Int) + 1) = True := eq_true (by omega)
  have q5 : wrap64 (i + 1) = i + 1 := by unfold wrap64; omega
  by_cases hb : rdOf false s.fu i = true
  · have e1 : putS s i true = s := by unfold putS; rw [if_pos hb]
    rw [e1]
    rw [hb] at h8
    have HP := Aside0.mk hP
    have HB := Aside0.mk hB
    clear hP hB e1 hb b0 b2 b3 hf8
    go_enter Tryd.func71, Tryd.ntmps71
    go_wp2
    first | go_end0 | exact bodyPost_ret (v := .tuple #[]) (results_none rfl _ _ _) rfl ⟨rfl, HP.out, HB.out, Kept.refl _ _⟩ | go_ret
    all_goals exact ⟨rfl, HP.out, HB.out, Kept.refl _ _⟩
  · replace hb : rdOf false s.fu i = false := by cases hq : rdOf false s.fu i <;> simp_all
    rw [hb] at h8
    have hnb : ¬ rdOf false s.fu i = true := by rw [hb]; decide
    go_enter Tryd.func71, Tryd.ntmps71
    go_wp2
    have P1 := (hP.put8 i true).1
    have K1 := (hP.put8 i true).2
    have B1 := below_set (j := i.toNat) (v := .bool true) hB hP.base.1
    have e1 : putS s i true = { lf := s.lf, fu := s.fu.set i.toNat true, ch := s.ch.set (i + 1).toNat (wrap64 (rd s.ch (i + 1) - rd s.lf i)), fi := s.fi.set i.toNat (wrap64 (rd s.fi i + 1)) } := by unfold putS; rw [if_neg hnb]; rfl
    have E1 := Aside0.mk e1
    have HP0 := Aside0.mk hP
    clear e1 hnb hb h8 hf8 b0 b1 b2 b3 hP hB
    dsimp only at P1 K1 B1 ⊢
    generalize w.setCell ⟨g8, i.toNat, none⟩ (.bool true) = W1 at P1 K1 B1 ⊢
    obtain ⟨hx0, hx1, hx2, hx3⟩ := P1.drew.cells
    obtain ⟨hx14, hy14⟩ := P1.drew.at14 (i + 1) (by omega) (by dsimp only; omega)
    obtain ⟨ad, e5, hx5⟩ := P1.drew.at5 i (by omega) (by dsimp only; omega)
    dsimp only at hx0 hx1 hx2 hx3 hx14 hy14 e5 hx5
    subst e5
    replace P1 := Aside0.mk P1.drew
    replace B1 := Aside0.mk (below_drew B1)
    replace K1 := Aside0.mk K1.drew
    clear hx1 hx3
    refine start_ (n := 19) (S := fun w' => w'.cell? ⟨g, 0, none⟩ = some (.slice (some ad) n c5) ∧ w'.cell? ⟨g, 2, none⟩ = some (.slice (some ⟨g14, 0, none⟩) (n + 1) c14) ∧ w'.cell? ⟨g14, (i + 1).toNat, none⟩ = some (.int .i64 (rd s.ch (i + 1))) ∧ w'.cell? (ad.add i.toNat) = some (.int .i64 (rd s.lf i))) (ds := [18]) #[false, false, false, false, false, false, false, false, false, false, false, false, false, false, false, false, false, false, false] (by kernel_rfl) rfl rfl ⟨hx0, hx2, hx14, hx5⟩ (fun hHeld => ?_)
    generalize W1.drew = Wd at hx0 hx2 hx14 hx5 hy14 P1 B1 K1 hHeld ⊢
    refine pure_ (i := 0) (N := some 25) (v := ?_) (a' := ?_) #[true, false, false, false, false, false, false, false, false, false, false, false, false, false, false, false, false, false, false] rfl rfl (by kernel_rfl) (fun _ _ _ h => h) (Or.inl ⟨by rfl, ?_⟩) ?_ ?_
    rotate_left
    · intro w'
      go_simp
      with_reducible rfl
    rotate_left
    · simp only [Act.put, List.setIfInBounds_toArray, List.set_cons_zero, List.set_cons_succ, i64_w, i32_w]
      rfl
    refine pure_ (i := 1) (N := some 26) (v := ?_) (a' := ?_) #[true, true, false, false, false, false, false, false, false, false, false, false, false, false, false, false, false, false, false] rfl rfl (by kernel_rfl) (fun _ _ _ h => h) (Or.inl ⟨by rfl, ?_⟩) ?_ ?_
    rotate_left
    · intro w'
      go_simp
      with_reducible rfl
    rotate_left
    · simp only [Act.put, List.setIfInBounds_toArray, List.set_cons_zero, List.set_cons_succ, i64_w, i32_w]
      rfl
    refine pure_ (i := 2) (N := some 27) (v := ?_) (a' := ?_) #[true, true, true, false, false, false, false, false, false, false, false, false, false, false, false, false, false, false, false] rfl rfl (by kernel_rfl) (fun _ _ _ h => h) (Or.inl ⟨by rfl, ?_⟩) ?_ ?_
    rotate_left
    · intro w'
      go_simp
      with_reducible rfl
    rotate_left
    · simp only [Act.put, List.setIfInBounds_toArray, List.set_cons_zero, List.set_cons_succ, i64_w, i32_w]
      rfl
    refine pure_ (i := 4) (N := some 29) (v := ?_) (a' := ?_) #[true, true, true, false, true, false, false, false, false, false, false, false, false, false, false, false, false, false, false] rfl rfl (by kernel_rfl) (fun _ _ _ h => h) (Or.inl ⟨by rfl, ?_⟩) ?_ ?_
    rotate_left
    · intro w'
      go_simp
      with_reducible rfl
    rotate_left
    · simp only [Act.put, List.setIfInBounds_toArray, List.set_cons_zero, List.set_cons_succ, i64_w, i32_w]
      rfl
    refine pure_ (i := 5) (N := some 30) (v := ?_) (a' := ?_) #[true, true, true, false, true, true, false, false, false, false, false, false, false, false, false, false, false, false, false] rfl rfl (by kernel_rfl) (fun _ _ _ h => h) (Or.inl ⟨by rfl, ?_⟩) ?_ ?_
    rotate_left
    · intro w'
      go_simp
      with_reducible rfl
    rotate_left
    · simp only [Act.put, List.setIfInBounds_toArray, List.set_cons_zero, List.set_cons_succ, i64_w, i32_w]
      rfl
    refine pure_ (i := 8) (N := some 33) (v := ?_) (a' := ?_) #[true, true, true, false, true, true, false, false, true, false, false, false, false, false, false, false, false, false, false] rfl rfl (by kernel_rfl) (fun _ _ _ h => h) (Or.inl ⟨by rfl, ?_⟩) ?_ ?_
    rotate_left
    · intro w'
      go_simp
      with_reducible rfl
    rotate_left
    · simp only [Act.put, List.setIfInBounds_toArray, List.set_cons_zero, List.set_cons_succ, i64_w, i32_w]
      rfl
    refine pure_ (i := 9) (N := some 34) (v := ?_) (a' := ?_) #[true, true, true, false, true, true, false, false, true, true, false, false, false, false, false, false, false, false, false] rfl rfl (by kernel_rfl) (fun _ _ _ h => h) (Or.inl ⟨by rfl, ?_⟩) ?_ ?_
    rotate_left
    · intro w'
      go_simp
      with_reducible rfl
    rotate_left
    · simp only [Act.put, List.setIfInBounds_toArray, List.set_cons_zero, List.set_cons_succ, i64_w, i32_w]
      rfl
    refine pure_ (i := 10) (N := some 35) (v := ?_) (a' := ?_) #[true, true, true, false, true, true, false, false, true, true, true, false, false, false, false, false, false, false, false] rfl rfl (by kernel_rfl) (fun _ _ _ h => h) (Or.inl ⟨by rfl, ?_⟩) ?_ ?_
    rotate_left
    · intro w'
      go_simp
      with_reducible rfl
    rotate_left
    · simp only [Act.put, List.setIfInBounds_toArray, List.set_cons_zero, List.set_cons_succ, i64_w, i32_w]
      rfl
    refine pure_ (i := 11) (N := some 36) (v := ?_) (a' := ?_) #[true, true, true, false, true, true, false, false, true, true, true, true, false, false, false, false, false, false, false] rfl rfl (by kernel_rfl) (fun _ _ _ h => h) (Or.inl ⟨by rfl, ?_⟩) ?_ ?_
    rotate_left
    · intro w'
      go_simp
      with_reducible rfl
    rotate_left
    · simp only [Act.put, List.setIfInBounds_toArray, List.set_cons_zero, List.set_cons_succ, i64_w, i32_w]
      rfl
    refine pure_ (i := 13) (N := some 38) (v := ?_) (a' := ?_) #[true, true, true, false, true, true, false, false, true, true, true, true, false, true, false, false, false, false, false] rfl rfl (by kernel_rfl) (fun _ _ _ h => h) (Or.inl ⟨by rfl, ?_⟩) ?_ ?_
    rotate_left
    · intro w'
      go_simp
      with_reducible rfl
    rotate_left
    · simp only [Act.put, List.setIfInBounds_toArray, List.set_cons_zero, List.set_cons_succ, i64_w, i32_w]
      rfl
    refine take_ (i := 3) (N := some 28) (v := ?_) (a' := ?_) #[true, true, true, true, true, true, false, false, true, true, true, true, false, true, false, false, false, false, false] rfl rfl (by kernel_rfl) (fun _ _ _ h => h) (Or.inl ⟨by rfl, ?_⟩) hHeld ?_ ?_
    rotate_left
    · rintro w' ⟨s0, s1, s2, s3⟩
      go_simp
      with_reducible rfl
    rotate_left
    · simp only [Act.put, List.setIfInBounds_toArray, List.set_cons_zero, List.set_cons_succ, i64_w, i32_w]
      rfl
    refine pure_ (i := 6) (N := some 31) (v := ?_) (a' := ?_) #[true, true, true, true, true, true, true, false, true, true, true, true, false, true, false, false, false, false, false] rfl rfl (by kernel_rfl) (fun _ _ _ h => h) (Or.inl ⟨by rfl, ?_⟩) ?_ ?_
    rotate_left
    · intro w'
      go_simp
      with_reducible rfl
    rotate_left
    · simp only [Act.put, List.setIfInBounds_toArray, List.set_cons_zero, List.set_cons_succ, i64_w, i32_w]
      rfl
    refine take_ (i := 7) (N := some 32) (v := ?_) (a' := ?_) #[true, true, true, true, true, true, true, true, true, true, true, true, false, true, false, false, false, false, false] rfl rfl (by kernel_rfl) (fun _ _ _ h => h) (Or.inl ⟨by rfl, ?_⟩) hHeld ?_ ?_
    rotate_left
    · rintro w' ⟨s0, s1, s2, s3⟩
      go_simp
      with_reducible rfl
    rotate_left
    · simp only [Act.put, List.setIfInBounds_toArray, List.set_cons_zero, List.set_cons_succ, i64_w, i32_w]
      rfl
    refine take_ (i := 12) (N := some 37) (v := ?_) (a' := ?_) #[true, true, true, true, true, true, true, true, true, true, true, true, true, true, false, false, false, false, false] rfl rfl (by kernel_rfl) (fun _ _ _ h => h) (Or.inl ⟨by rfl, ?_⟩) hHeld ?_ ?_
    rotate_left
    · rintro w' ⟨s0, s1, s2, s3⟩
      go_simp
      with_reducible rfl
    rotate_left
    · simp only [Act.put, List.setIfInBounds_toArray, List.set_cons_zero, List.set_cons_succ, i64_w, i32_w]
      rfl
    refine pure_ (i := 14) (N := some 39) (v := ?_) (a' := ?_) #[true, true, true, true, true, true, true, true, true, true, true, true, true, true, true, false, false, false, false] rfl rfl (by kernel_rfl) (fun _ _ _ h => h) (Or.inl ⟨by rfl, ?_⟩) ?_ ?_
    rotate_left
    · intro w'
      go_simp
      with_reducible rfl
    rotate_left
    · simp only [Act.put, List.setIfInBounds_toArray, List.set_cons_zero, List.set_cons_succ, i64_w, i32_w]
      rfl
    refine take_ (i := 15) (N := some 40) (v := ?_) (a' := ?_) #[true, true, true, true, true, true, true, true, true, true, true, true, true, true, true, true, false, false, false] rfl rfl (by kernel_rfl) (fun _ _ _ h => h) (Or.inl ⟨by rfl, ?_⟩) hHeld ?_ ?_
    rotate_left
    · rintro w' ⟨s0, s1, s2, s3⟩
      go_simp
      with_reducible rfl
    rotate_left
    · simp only [Act.put, List.setIfInBounds_toArray, List.set_cons_zero, List.set_cons_succ, i64_w, i32_w]
      rfl
    refine pure_ (i := 16) (N := some 41) (v := ?_) (a' := ?_) #[true, true, true, true, true, true, true, true, true, true, true, true, true, true, true, true, true, false, false] rfl rfl (by kernel_rfl) (fun _ _ _ h => h) (Or.inl ⟨by rfl, ?_⟩) ?_ ?_
    rotate_left
    · intro w'
      go_simp
      with_reducible rfl
    rotate_left
    · simp only [Act.put, List.setIfInBounds_toArray, List.set_cons_zero, List.set_cons_succ, i64_w, i32_w]
      rfl
    refine pure_ (i := 17) (N := some 42) (v := ?_) (a' := ?_) #[true, true, true, true, true, true, true, true, true, true, true, true, true, true, true, true, true, true, false] rfl rfl (by kernel_rfl) (fun _ _ _ h => h) (Or.inl ⟨by rfl, ?_⟩) ?_ ?_
    rotate_left
    · intro w'
      go_simp
      with_reducible rfl
    rotate_left
    · simp only [Act.put, List.setIfInBounds_toArray, List.set_cons_zero, List.set_cons_succ, i64_w, i32_w]
      rfl
    refine last_ (i := 18) (N := none) #[true, true, true, true, true, true, true, true, true, true, true, true, true, true, true, true, true, true, true] rfl rfl (by kernel_rfl) (by decide) (fun K hK => ?_)
    refine skip_ (w1 := ?_) (by rfl) rfl ?_ ?_
    rotate_left
    · go_simp
      rfl
    refine hK.out _ _ ?_
    clear hK K
    refine done_ (by kernel_rfl) ?_
    replace P1 := P1.out
    replace B1 := B1.out
    replace K1 := K1.out
    clear hx0 hx2 hx14 hx5 hy14
    have P2 := (P1.put14 (i + 1) (wrap64 (rd s.ch (i + 1) - rd s.lf i))).1
    have K2 := K1.then_ (P1.put14 (i + 1) (wrap64 (rd s.ch (i + 1) - rd s.lf i))).2 (fun _ h => .inl h)
    have B2 := below_set (j := (i + 1).toNat) (v := .int .i64 (wrap64 (rd s.ch (i + 1) - rd s.lf i))) B1 P1.base.2.1
    clear P1 B1 K1
    dsimp only at P2 K2 B2
    generalize Wd.setCell ⟨g14, (i + 1).toNat, none⟩ (.int .i64 (wrap64 (rd s.ch (i + 1) - rd s.lf i))) = W2 at P2 K2 B2 ⊢
    obtain ⟨hx0, hx1, hx2, hx3⟩ := P2.cells
    obtain ⟨hx18, hy18⟩ := P2.at18 i (by omega) (by dsimp only; omega)
    dsimp only at hx0 hx1 hx2 hx3 hx18 hy18
    replace P2 := Aside0.mk P2
    replace B2 := Aside0.mk B2
    replace K2 := Aside0.mk K2
    clear hx0 hx1 hx2
    go_wp2
    go_end0
    rw [E1.out]
    exact ⟨rfl, (P2.out.put18 i (wrap64 (rd s.fi i + 1))).1, below_set (j := i.toNat) B2.out P2.out.base.2.2, K2.out.then_ (P2.out.put18 i (wrap64 (rd s.fi i + 1))).2 (fun _ h => .inl h)⟩
set_option maxHeartbeats 8000000 in
set_option maxRecDepth 100000 in
theorem put_false.calls (w0 : World) (p : PA) (s : PS) (i : Int) (w : World) (hP : Pas 51 w0.heap.size p s w) (hB : Below w0.heap.size w0 w) (h0 : 0 ≤ i) (h1 : i < (p.n : Int)) :
    Calls Tryd.prog 71 #[.pointer (some ⟨p.g, 0, none⟩), .int .i64 i, .bool false] w fun e w' => e = .returned (.tuple #[]) ∧ Pas 51 w0.heap.size p (putS s i false) w' ∧ Below w0.heap.size w0 w' ∧ Kept w w' p.S := by
  obtain ⟨g, A5, c5, g8, c8, g14, c14, g18, c18, n⟩ := p
  have hn := hP.hn.2
  obtain ⟨b0, b1, b2, b3⟩ := hP.cells
  obtain ⟨h8, hf8⟩ := hP.at8 i h0 h1
  dsimp only at h1 hn b0 b1 b2 b3 h8 hf8 ⊢
  have q0 := eq_true h0
  have q1 := eq_true h1
  have q2 : (0 ≤ i + 1) = True := eq_true (by omega)
  have q3 : (i + 1 < (n : Int) + 1) = True := eq_true (by omega)
  have q4 : (i < (n : Int) + 1) = True := eq_true (by omega)
  have q5 : wrap64 (i + 1) = i + 1 := by unfold wrap64; omega
  by_cases hb : rdOf false s.fu i = false
  · have e1 : putS s i false = s := by unfold putS; rw [if_pos hb]
    rw [e1]
    rw [hb] at h8
    have HP := Aside0.mk hP
    have HB := Aside0.mk hB
    clear hP hB e1 hb b0 b2 b3 hf8
    go_enter Tryd.func71, Tryd.ntmps71
    go_wp2
    first | go_end0 | exact bodyPost_ret (v := .tuple #[]) (results_none rfl _ _ _) rfl ⟨rfl, HP.out, HB.out, Kept.refl _ _⟩ | go_ret
    all_goals exact ⟨rfl, HP.out, HB.out, Kept.refl _ _⟩
  · replace hb : rdOf false s.fu i = true := by cases hq : rdOf false s.fu i <;> simp_all
    rw [hb] at h8
    have hnb : ¬ rdOf false s.fu i = false := by rw [hb]; decide
    go_enter Tryd.func71, Tryd.ntmps71
    go_wp2
    have P1 := (hP.put8 i false).1
    have K1 := (hP.put8 i false).2
    have B1 := below_set (j := i.toNat) (v := .bool false) hB hP.base.1
    have e1 : putS s i false = { lf := s.lf, fu := s.fu.set i.toNat false, ch := s.ch.set i.toNat (wrap64 (rd s.ch i + rd s.lf i)), fi := s.fi } := by unfold putS; rw [if_neg hnb]; rfl
    have E1 := Aside0.mk e1
    have HP0 := Aside0.mk hP
    clear e1 hnb hb h8 hf8 b0 b1 b2 b3 hP hB
    dsimp only at P1 K1 B1 ⊢
    generalize w.setCell ⟨g8, i.toNat, none⟩ (.bool false) = W1 at P1 K1 B1 ⊢
    obtain ⟨hx0, hx1, hx2, hx3⟩ := P1.drew.cells
    obtain ⟨hx14, hy14⟩ := P1.drew.at14 i (by omega) (by dsimp only; omega)
    obtain ⟨ad, e5, hx5⟩ := P1.drew.at5 i (by omega) (by dsimp only; omega)
    dsimp only at hx0 hx1 hx2 hx3 hx14 hy14 e5 hx5
    subst e5
    replace P1 := Aside0.mk P1.drew
    replace B1 := Aside0.mk (below_drew B1)
    replace K1 := Aside0.mk K1.drew
    clear hx1 hx3
    refine start_ (n := 18) (S := fun w' => w'.cell? ⟨g, 0, none⟩ = some (.slice (some ad) n c5) ∧ w'.cell? ⟨g, 2, none⟩ = some (.slice (some ⟨g14, 0, none⟩) (n + 1) c14) ∧ w'.cell? ⟨g14, i.toNat, none⟩ = some (.int .i64 (rd s.ch i)) ∧ w'.cell? (ad.add i.toNat) = some (.int .i64 (rd s.lf i))) (ds := [17]) #[false, false, false, false, false, false, false, false, false, false, false, false, false, false, false, false, false, false] (by kernel_rfl) rfl rfl ⟨hx0, hx2, hx14, hx5⟩ (fun hHeld => ?_)
    generalize W1.drew = Wd at hx0 hx2 hx14 hx5 hy14 P1 B1 K1 hHeld ⊢
    refine pure_ (i := 0) (N := some 52) (v := ?_) (a' := ?_) #[true, false, false, false, false, false, false, false, false, false, false, false, false, false, false, false, false, false] rfl rfl (by kernel_rfl) (fun _ _ _ h => h) (Or.inl ⟨by rfl, ?_⟩) ?_ ?_
    rotate_left
    · intro w'
      go_simp
      with_reducible rfl
    rotate_left
    · simp only [Act.put, List.setIfInBounds_toArray, List.set_cons_zero, List.set_cons_succ, i64_w, i32_w]
      rfl
    refine pure_ (i := 1) (N := some 53) (v := ?_) (a' := ?_) #[true, true, false, false, false, false, false, false, false, false, false, false, false, false, false, false, false, false] rfl rfl (by kernel_rfl) (fun _ _ _ h => h) (Or.inl ⟨by rfl, ?_⟩) ?_ ?_
    rotate_left
    · intro w'
      go_simp
      with_reducible rfl
    rotate_left
    · simp only [Act.put, List.setIfInBounds_toArray, List.set_cons_zero, List.set_cons_succ, i64_w, i32_w]
      rfl
    refine pure_ (i := 2) (N := some 54) (v := ?_) (a' := ?_) #[true, true, true, false, false, false, false, false, false, false, false, false, false, false, false, false, false, false] rfl rfl (by kernel_rfl) (fun _ _ _ h => h) (Or.inl ⟨by rfl, ?_⟩) ?_ ?_
    rotate_left
    · intro w'
      go_simp
      with_reducible rfl
    rotate_left
    · simp only [Act.put, List.setIfInBounds_toArray, List.set_cons_zero, List.set_cons_succ, i64_w, i32_w]
      rfl
    refine pure_ (i := 4) (N := some 56) (v := ?_) (a' := ?_) #[true, true, true, false, true, false, false, false, false, false, false, false, false, false, false, false, false, false] rfl rfl (by kernel_rfl) (fun _ _ _ h => h) (Or.inl ⟨by rfl, ?_⟩) ?_ ?_
    rotate_left
    · intro w'
      go_simp
      with_reducible rfl
    rotate_left
    · simp only [Act.put, List.setIfInBounds_toArray, List.set_cons_zero, List.set_cons_succ, i64_w, i32_w]
      rfl
    refine pure_ (i := 7) (N := some 59) (v := ?_) (a' := ?_) #[true, true, true, false, true, false, false, true, false, false, false, false, false, false, false, false, false, false] rfl rfl (by kernel_rfl) (fun _ _ _ h => h) (Or.inl ⟨by rfl, ?_⟩) ?_ ?_
    rotate_left
    · intro w'
      go_simp
      with_reducible rfl
    rotate_left
    · simp only [Act.put, List.setIfInBounds_toArray, List.set_cons_zero, List.set_cons_succ, i64_w, i32_w]
      rfl
    refine pure_ (i := 8) (N := some 60) (v := ?_) (a' := ?_) #[true, true, true, false, true, false, false, true, true, false, false, false, false, false, false, false, false, false] rfl rfl (by kernel_rfl) (fun _ _ _ h => h) (Or.inl ⟨by rfl, ?_⟩) ?_ ?_
    rotate_left
    · intro w'
      go_simp
      with_reducible rfl
    rotate_left
    · simp only [Act.put, List.setIfInBounds_toArray, List.set_cons_zero, List.set_cons_succ, i64_w, i32_w]
      rfl
    refine pure_ (i := 9) (N := some 61) (v := ?_) (a' := ?_) #[true, true, true, false, true, false, false, true, true, true, false, false, false, false, false, false, false, false] rfl rfl (by kernel_rfl) (fun _ _ _ h => h) (Or.inl ⟨by rfl, ?_⟩) ?_ ?_
    rotate_left
    · intro w'
      go_simp
      with_reducible rfl
    rotate_left
    · simp only [Act.put, List.setIfInBounds_toArray, List.set_cons_zero, List.set_cons_succ, i64_w, i32_w]
      rfl
    refine pure_ (i := 10) (N := some 62) (v := ?_) (a' := ?_) #[true, true, true, false, true, false, false, true, true, true, true, false, false, false, false, false, false, false] rfl rfl (by kernel_rfl) (fun _ _ _ h => h) (Or.inl ⟨by rfl, ?_⟩) ?_ ?_
    rotate_left
    · intro w'
      go_simp
      with_reducible rfl
    rotate_left
    · simp only [Act.put, List.setIfInBounds_toArray, List.set_cons_zero, List.set_cons_succ, i64_w, i32_w]
      rfl
    refine pure_ (i := 12) (N := some 64) (v := ?_) (a' := ?_) #[true, true, true, false, true, false, false, true, true, true, true, false, true, false, false, false, false, false] rfl rfl (by kernel_rfl) (fun _ _ _ h => h) (Or.inl ⟨by rfl, ?_⟩) ?_ ?_
    rotate_left
    · intro w'
      go_simp
      with_reducible rfl
    rotate_left
    · simp only [Act.put, List.setIfInBounds_toArray, List.set_cons_zero, List.set_cons_succ, i64_w, i32_w]
      rfl
    refine take_ (i := 3) (N := some 55) (v := ?_) (a' := ?_) #[true, true, true, true, true, false, false, true, true, true, true, false, true, false, false, false, false, false] rfl rfl (by kernel_rfl) (fun _ _ _ h => h) (Or.inl ⟨by rfl, ?_⟩) hHeld ?_ ?_
    rotate_left
    · rintro w' ⟨s0, s1, s2, s3⟩
      go_simp
      with_reducible rfl
    rotate_left
    · simp only [Act.put, List.setIfInBounds_toArray, List.set_cons_zero, List.set_cons_succ, i64_w, i32_w]
      rfl
    refine pure_ (i := 5) (N := some 57) (v := ?_) (a' := ?_) #[true, true, true, true, true, true, false, true, true, true, true, false, true, false, false, false, false, false] rfl rfl (by kernel_rfl) (fun _ _ _ h => h) (Or.inl ⟨by rfl, ?_⟩) ?_ ?_
    rotate_left
    · intro w'
      go_simp
      with_reducible rfl
    rotate_left
    · simp only [Act.put, List.setIfInBounds_toArray, List.set_cons_zero, List.set_cons_succ, i64_w, i32_w]
      rfl
    refine take_ (i := 6) (N := some 58) (v := ?_) (a' := ?_) #[true, true, true, true, true, true, true, true, true, true, true, false, true, false, false, false, false, false] rfl rfl (by kernel_rfl) (fun _ _ _ h => h) (Or.inl ⟨by rfl, ?_⟩) hHeld ?_ ?_
    rotate_left
    · rintro w' ⟨s0, s1, s2, s3⟩
      go_simp
      with_reducible rfl
    rotate_left
    · simp only [Act.put, List.setIfInBounds_toArray, List.set_cons_zero, List.set_cons_succ, i64_w, i32_w]
      rfl
    refine take_ (i := 11) (N := some 63) (v := ?_) (a' := ?_) #[true, true, true, true, true, true, true, true, true, true, true, true, true, false, false, false, false, false] rfl rfl (by kernel_rfl) (fun _ _ _ h => h) (Or.inl ⟨by rfl, ?_⟩) hHeld ?_ ?_
    rotate_left
    · rintro w' ⟨s0, s1, s2, s3⟩
      go_simp
      with_reducible rfl
    rotate_left
    · simp only [Act.put, List.setIfInBounds_toArray, List.set_cons_zero, List.set_cons_succ, i64_w, i32_w]
      rfl
    refine pure_ (i := 13) (N := some 65) (v := ?_) (a' := ?_) #[true, true, true, true, true, true, true, true, true, true, true, true, true, true, false, false, false, false] rfl rfl (by kernel_rfl) (fun _ _ _ h => h) (Or.inl ⟨by rfl, ?_⟩) ?_ ?_
    rotate_left
    · intro w'
      go_simp
      with_reducible rfl
    rotate_left
    · simp only [Act.put, List.setIfInBounds_toArray, List.set_cons_zero, List.set_cons_succ, i64_w, i32_w]
      rfl
    refine take_ (i := 14) (N := some 66) (v := ?_) (a' := ?_) #[true, true, true, true, true, true, true, true, true, true, true, true, true, true, true, false, false, false] rfl rfl (by kernel_rfl) (fun _ _ _ h => h) (Or.inl ⟨by rfl, ?_⟩) hHeld ?_ ?_
    rotate_left
    · rintro w' ⟨s0, s1, s2, s3⟩
      go_simp
      with_reducible rfl
    rotate_left
    · simp only [Act.put, List.setIfInBounds_toArray, List.set_cons_zero, List.set_cons_succ, i64_w, i32_w]
      rfl
    refine pure_ (i := 15) (N := some 67) (v := ?_) (a' := ?_) #[true, true, true, true, true, true, true, true, true, true, true, true, true, true, true, true, false, false] rfl rfl (by kernel_rfl) (fun _ _ _ h => h) (Or.inl ⟨by rfl, ?_⟩) ?_ ?_
    rotate_left
    · intro w'
      go_simp
      with_reducible rfl
    rotate_left
    · simp only [Act.put, List.setIfInBounds_toArray, List.set_cons_zero, List.set_cons_succ, i64_w, i32_w]
      rfl
    refine pure_ (i := 16) (N := some 68) (v := ?_) (a' := ?_) #[true, true, true, true, true, true, true, true, true, true, true, true, true, true, true, true, true, false] rfl rfl (by kernel_rfl) (fun _ _ _ h => h) (Or.inl ⟨by rfl, ?_⟩) ?_ ?_
    rotate_left
    · intro w'
      go_simp
      with_reducible rfl
    rotate_left
    · simp only [Act.put, List.setIfInBounds_toArray, List.set_cons_zero, List.set_cons_succ, i64_w, i32_w]
      rfl
    refine last_ (i := 17) (N := none) #[true, true, true, true, true, true, true, true, true, true, true, true, true, true, true, true, true, true] rfl rfl (by kernel_rfl) (by decide) (fun K hK => ?_)
    refine skip_ (w1 := ?_) (by rfl) rfl ?_ ?_
    rotate_left
    · go_simp
      rfl
    refine hK.out _ _ ?_
    clear hK K
    refine done_ (by kernel_rfl) ?_
    replace P1 := P1.out
    replace B1 := B1.out
    replace K1 := K1.out
    clear hx0 hx2 hx14 hx5 hy14
    have P2 := (P1.put14 i (wrap64 (rd s.ch i + rd s.lf i))).1
    have K2 := K1.then_ (P1.put14 i (wrap64 (rd s.ch i + rd s.lf i))).2 (fun _ h => .inl h)
    have B2 := below_set (j := i.toNat) (v := .int .i64 (wrap64 (rd s.ch i + rd s.lf i))) B1 P1.base.2.1
    clear P1 B1 K1
    dsimp only at P2 K2 B2
    generalize Wd.setCell ⟨g14, i.toNat, none⟩ (.int .i64 (wrap64 (rd s.ch i + rd s.lf i))) = W2 at P2 K2 B2 ⊢
    replace P2 := Aside0.mk P2
    replace B2 := Aside0.mk B2
    replace K2 := Aside0.mk K2
    go_wp2
    go_end0
    rw [E1.out]
    exact ⟨rfl, P2.out, B2.out, K2.out⟩
theorem put.calls (w0 : World) (p : PA) (s : PS) (i : Int) (full : Bool) (w : World) (hP : Pas 51 w0.heap.size p s w) (hB : Below w0.heap.size w0 w) (h0 : 0 ≤ i) (h1 : i < (p.n : Int)) :
    Calls Tryd.prog 71 #[.pointer (some ⟨p.g, 0, none⟩), .int .i64 i, .bool full] w fun e w' => e = .returned (.tuple #[]) ∧ Pas 51 w0.heap.size p (putS s i full) w' ∧ Below w0.heap.size w0 w' ∧ Kept w w' p.S := by
  cases full with
  | true => exact put_true.calls w0 p s i w hP hB h0 h1
  | false => exact put_false.calls w0 p s i w hP hB h0 h1
set_option maxHeartbeats 4000000 in
set_option maxRecDepth 100000 in
theorem pass.calls (w0 : World) (p : PA) (s : PS) (i : Int) (up : Bool) (w : World) (hP : Pas 51 w0.heap.size p s w) (hB : Below w0.heap.size w0 w) (h0 : 0 ≤ i) (h1 : i < (p.n : Int)) :
    Calls Tryd.prog 64 #[.pointer (some ⟨p.g, 0, none⟩), .int .i64 i, .bool up] w fun e w' => e = .returned (.tuple #[]) ∧ Pas 51 w0.heap.size p (passS s i up) w' ∧ Below w0.heap.size w0 w' ∧ Kept w w' p.S := by
  have hc := Aside0.mk (put.calls w0 p s i (!up) w hP hB h0 h1)
  have hd := Aside0.mk (fun s' w' hP' hB' => put.calls w0 p s' i up w' hP' hB' h0 h1)
  clear hP hB h0 h1
  go_enter Tryd.func64, Tryd.ntmps64
  go_wp2_with (first | (go_at_call 71; (with_reducible refine hc.out.mono ?_); rintro e w1 ⟨rfl, p1, b1, k1⟩; have P1 := Aside0.mk p1; have B1 := Aside0.mk b1; have K1 := Aside0.mk k1; clear p1 b1 k1 hc) | (go_at_call 71; refine (hd.out _ _ P1.out B1.out).mono ?_; rintro e w2 ⟨rfl, p2, b2, k2⟩; have P2 := Aside0.mk p2; have B2 := Aside0.mk b2; have K2 := Aside0.mk (K1.out.then_ k2 (fun _ h => .inl h)); clear p2 b2 k2 hd))
  go_end0
  exact ⟨rfl, P2.out, B2.out, K2.out⟩
set_option maxHeartbeats 4000000 in
set_option maxRecDepth 100000 in
theorem ship.calls (w0 : World) (p : PA) (s : PS) (up : Bool) (w : World) (hP : Pas 51 w0.heap.size p s w) (hB : Below w0.heap.size w0 w) :
    Calls Tryd.prog 50 #[.pointer (some ⟨p.g, 0, none⟩), .bool up] w fun e w' => e = .returned (.tuple #[]) ∧ Pas 51 w0.heap.size p (shipS up p.n p.n 0 s) w' ∧ Below w0.heap.size w0 w' ∧ Kept w w' p.S := by
  obtain ⟨hx0, _, _, _⟩ := hP.cells
  have hn := hP.hn.2
  have HP := Aside0.mk hP
  have HB := Aside0.mk hB
  clear hP hB
  obtain ⟨g, A5, c5, g8, c8, g14, c14, g18, c18, n⟩ := p
  dsimp only at hx0 hn ⊢
  go_enter Tryd.func50, Tryd.ntmps50
  go_wp2
  go_loopg [4, 11] n (fun gg _ v11 wr => ∃ k : Nat, v11 = .int .i64 (k : Int) ∧ Aside0 (k ≤ n) ∧ Aside0 (n - k ≤ gg) ∧ Aside0 (∃ s', Pas 51 w0.heap.size ⟨g, A5, c5, g8, c8, g14, c14, g18, c18, n⟩ s' wr ∧ shipS up n (n - k) k s' = shipS up n n 0 s) ∧ Aside0 (Below w0.heap.size w0 wr) ∧ Aside0 (Kept w wr (PA.S ⟨g, A5, c5, g8, c8, g14, c14, g18, c18, n⟩)))
  case atStart => exact ⟨0, rfl, ⟨by omega⟩, ⟨by omega⟩, ⟨s, HP.out, rfl⟩, HB, ⟨Kept.refl _ _⟩⟩
  case round =>
    clear HP HB hx0
    obtain ⟨k, rfl, HK, HG, HS, HB, HKK⟩ := hrel
    obtain ⟨s', hP, hE⟩ := HS.out
    by_cases hlt : k < n
    · have c1 : decide ((k : Int) < (n : Int)) = true := decide_eq_true (by omega)
      have c3 : decide (k < n) = true := decide_eq_true (by omega)
      have HL := Aside0.mk hlt
      obtain ⟨hx0, _, _, _⟩ := hP.cells
      dsimp only at hx0
      have HE := Aside0.mk hE
      have e2 : n - k = (n - (k + 1)) + 1 := by omega
      rw [e2] at hE
      cases up with
      | true =>
        have hc := Aside0.mk (pass.calls w0 ⟨g, A5, c5, g8, c8, g14, c14, g18, c18, n⟩ s' (k : Int) true wr hP HB.out (by omega) (by dsimp only; omega))
        have HE2 := Aside0.mk (show shipS true n (n - (k + 1)) (k + 1) (passS s' (k : Int) true) = shipS true n n 0 s from hE)
        clear hE hP HS e2
        go_wp2_with (go_at_call 64; refine hc.out.mono ?_; rintro e w1 ⟨rfl, p1, b1, k1⟩; have P1 := Aside0.mk p1; have B1 := Aside0.mk b1; have K1 := Aside0.mk (HKK.out.then_ k1 (fun _ h => .inl h)); clear p1 b1 k1 hc)
        go_roundg (n - (k + 1))
        case measure => have := HG.out; have := HL.out; omega
        case rel => exact ⟨k + 1, by go_num, ⟨by have := HL.out; omega⟩, ⟨by omega⟩, ⟨_, P1.out, HE2.out⟩, B1, K1⟩
      | false =>
        have hc := Aside0.mk (pass.calls w0 ⟨g, A5, c5, g8, c8, g14, c14, g18, c18, n⟩ s' ((n : Int) - 1 - (k : Int)) false wr hP HB.out (by omega) (by dsimp only; omega))
        have HE2 := Aside0.mk (show shipS false n (n - (k + 1)) (k + 1) (passS s' ((n : Int) - 1 - (k : Int)) false) = shipS false n n 0 s from hE)
        clear hE hP HS e2
        go_wp2_with (go_at_call 64; refine hc.out.mono ?_; rintro e w1 ⟨rfl, p1, b1, k1⟩; have P1 := Aside0.mk p1; have B1 := Aside0.mk b1; have K1 := Aside0.mk (HKK.out.then_ k1 (fun _ h => .inl h)); clear p1 b1 k1 hc)
        go_roundg (n - (k + 1))
        case measure => have := HG.out; have := HL.out; omega
        case rel => exact ⟨k + 1, by go_num, ⟨by have := HL.out; omega⟩, ⟨by omega⟩, ⟨_, P1.out, HE2.out⟩, B1, K1⟩
    · have c1 : decide ((k : Int) < (n : Int)) = false := decide_eq_false (by omega)
      have c3 : decide (k < n) = false := decide_eq_false (by omega)
      have hk : k = n := by have := HK.out; omega
      have e2 : n - k = 0 := by omega
      rw [e2] at hE
      have HE := Aside0.mk (show s' = shipS up n n 0 s from hE)
      have HP := Aside0.mk hP
      clear hE hP HS e2 hk
      go_wp2
      go_end0
      exact ⟨rfl, by rw [← HE.out]; exact HP.out, HB.out, HKK.out⟩
theorem dw_nil (p : UInt8 → Bool) : ∀ m : List UInt8, m.dropWhile p = [] ↔ m.all p = true
  | [] => by simp
  | a :: t => by
    cases h : p a with
    | true => rw [List.dropWhile_cons_of_pos h, dw_nil p t, List.all_cons, h, Bool.true_and]
    | false => rw [List.dropWhile_cons_of_neg (by simp [h]), List.all_cons, h]; simp
theorem dw_all (p : UInt8 → Bool) (m : List UInt8) (h : (m.dropWhile p).all p = true) : m.all p = true := by
  induction m with
  | nil => rfl
  | cons a t ih =>
    cases ha : p a with
    | true => rw [List.dropWhile_cons_of_pos ha] at h; rw [List.all_cons, ha, ih h]; rfl
    | false => rw [List.dropWhile_cons_of_neg (by simp [ha])] at h; exact h
theorem trim_empty (l : List UInt8) : (Lib.trimS l [117, 100]).isEmpty = l.all (fun x => x == 117 || x == 100) := by
  have hp : (fun x : UInt8 => x == 117 || x == 100) = (fun x => ([117, 100] : List UInt8).contains x) := by
    funext x
    simp [List.contains, List.elem]
    cases h1 : (x == 117) <;> cases h2 : (x == 100) <;> simp_all
  rw [hp]
  generalize ([117, 100] : List UInt8) = cs
  apply Bool.eq_iff_iff.mpr
  rw [List.isEmpty_iff]
  unfold Lib.trimS Lib.trimLeftS Lib.trimRightS
  rw [dw_nil, List.all_reverse]
  constructor
  · intro h
    have := dw_all _ _ h
    rwa [List.all_reverse] at this
  · intro h
    have e : l.reverse.dropWhile (fun x => cs.contains x) = [] := (dw_nil _ _).mpr (by rwa [List.all_reverse])
    rw [e]; rfl
theorem traffic_at (s : ByteArray) (h : trafficB s = true) (i : Nat) (hi : i < s.size) : s[i]'hi = 117 ∨ s[i]'hi = 100 := by
  have hn : s.data.toList.length = s.size := rfl
  unfold trafficB at h
  rw [Bool.and_eq_true, trim_empty, List.all_eq_true] at h
  have hm : s.data.toList[i]'(by omega) ∈ s.data.toList := List.getElem_mem _
  have := h.2 _ hm
  have e : s.data.toList[i]'(by omega) = s[i]'hi := rfl
  rw [e] at this
  simpa [Bool.or_eq_true] using this
set_option maxHeartbeats 4000000 in
set_option maxRecDepth 100000 in
theorem implRun.bad (A0_0 : Option Addr) (c0_0 : Nat) (l0_0 : List Int) (A0_1 : Option Addr) (c0_1 : Nat) (l0_1 : List Bool) (a1 : ByteArray) (t : Bool) (w : World) (hr0 : Kd.C (Kd.int .i64) w A0_0 l0_0.length l0_0) (hc0 : l0_0.length ≤ c0_0) (hr1 : Kd.C Kd.bool w A0_1 l0_1.length l0_1) (hc1 : l0_1.length ≤ c0_1) (hT : impl_IsFlight.f l0_0 l0_1 = some t) (hs : a1.size ≤ 140737488351232) (hb : (t && trafficB a1) = false) :
    Calls Tryd.prog 34 #[.agg #[.slice A0_0 l0_0.length c0_0, .slice A0_1 l0_1.length c0_1], .string a1] w fun e w' => e = .returned (.tuple #[.pointer none, .bool false]) ∧ Below w.heap.size w w' := by
  have HA := Aside0.mk (below_alloc (Below.refl w.heap.size w) (.cells #[.slice A0_0 l0_0.length c0_0, .slice A0_1 l0_1.length c0_1] 30))
  have hT1 := Aside0.mk (fun (W : World) (hb : Below w.heap.size w W) => impl_IsFlight.calls A0_0 c0_0 l0_0 A0_1 c0_1 l0_1 t W (Kd.C_below hr0 hb) hc0 (Kd.C_below hr1 hb) hc1 hT)
  have hT2 := Aside0.mk (fun (W : World) => impl_IsTraffic.calls a1 (trafficB a1) W (if_pos hs))
  clear hr0 hc0 hr1 hc1 hT hs
  cases t with
  | false =>
    clear hT2
    go_enter Tryd.func34, Tryd.ntmps34
    go_wp2_with (go_at_call 48; refine (hT1.out _ HA.out).mono ?_; rintro e w1 ⟨rfl, hb⟩; have HB := Aside0.mk (below_then HA.out HA.out.size hb); clear hb)
    go_ret2
    exact ⟨rfl, HB.out⟩
  | true =>
    replace hb : trafficB a1 = false := hb
    rw [hb] at hT2
    go_enter Tryd.func34, Tryd.ntmps34
    go_wp2_with (first | (go_at_call 48; refine (hT1.out _ HA.out).mono ?_; rintro e w1 ⟨rfl, hb⟩; have HB := Aside0.mk (below_then HA.out HA.out.size hb); clear hb) | (go_at_call 9; refine (hT2.out _).mono ?_; rintro e w2 ⟨rfl, hb⟩; have HB2 := Aside0.mk (below_then HB.out HB.out.size hb); clear hb))
    go_ret2
    exact ⟨rfl, HB2.out⟩
set_option maxHeartbeats 8000000 in
set_option maxRecDepth 100000 in
theorem implRun.good (A0_0 : Option Addr) (c0_0 : Nat) (l0_0 : List Int) (A0_1 : Option Addr) (c0_1 : Nat) (l0_1 : List Bool) (a1 : ByteArray) (w : World) (hr0 : Kd.C (Kd.int .i64) w A0_0 l0_0.length l0_0) (hc0 : l0_0.length ≤ c0_0) (hr1 : Kd.C Kd.bool w A0_1 l0_1.length l0_1) (hc1 : l0_1.length ≤ c0_1) (hT : impl_IsFlight.f l0_0 l0_1 = some true) (hs : a1.size ≤ 140737488351232) (htr : trafficB a1 = true) (hg : l0_1.length = l0_0.length ∧ 1 ≤ l0_0.length ∧ l0_0.length ≤ 1000) :
    Calls Tryd.prog 34 #[.agg #[.slice A0_0 l0_0.length c0_0, .slice A0_1 l0_1.length c0_1], .string a1] w fun e w' => ∃ (p : PA) (g5 : Nat), e = .returned (.tuple #[.pointer (some ⟨p.g, 0, none⟩), .bool true]) ∧ p.A5 = some ⟨g5, 0, none⟩ ∧ p.n = l0_0.length ∧ Pas 51 w.heap.size p (runS l0_0.length a1.data.toList (newS l0_0 l0_1)) w' ∧ Kd.R (Kd.int .i64) 3 w' w.heap.size (fun k => k = g5) (.slice (some ⟨g5, 0, none⟩) l0_0.length p.c5) l0_0 ∧ ¬ p.S g5 ∧ Below w.heap.size w w' := by
  have HA := Aside0.mk (below_alloc (Below.refl w.heap.size w) (.cells #[.slice A0_0 l0_0.length c0_0, .slice A0_1 l0_1.length c0_1] 30))
  have BK := Aside0.mk (hw_new0 w (.cells #[.slice A0_0 l0_0.length c0_0, .slice A0_1 l0_1.length c0_1] 30))
  have hT1 := Aside0.mk (fun (W : World) (hb : Below w.heap.size w W) => impl_IsFlight.calls A0_0 c0_0 l0_0 A0_1 c0_1 l0_1 true W (Kd.C_below hr0 hb) hc0 (Kd.C_below hr1 hb) hc1 hT)
  have hT2 := Aside0.mk (fun (W : World) => impl_IsTraffic.calls a1 true W (by rw [← htr]; exact if_pos hs))
  have hP := Aside0.mk (fun (W : World) (hb : Below w.heap.size w W) => passage.calls A0_0 c0_0 l0_0 _ c0_1 l0_1 W (Kd.C_below hr0 hb) hc0 (Kd.C_below hr1 hb) hc1 hg.2.2 (by have := hg.1; have := hg.2.2; omega) hg.1 hg.2.1)
  have HG0 := Aside0.mk hg
  have HT := Aside0.mk (traffic_at a1 htr)
  clear hr0 hc0 hr1 hc1 hT hs htr hg
  go_enter Tryd.func34, Tryd.ntmps34
  go_wp2_with (first | (go_at_call 48; refine (hT1.out _ HA.out).mono ?_; rintro e w1 ⟨rfl, hb⟩; have BL := Aside0.mk (blk_below BK.out hb); have HB := Aside0.mk (below_then HA.out HA.out.size hb); clear hb) | (go_at_call 9; refine (hT2.out _).mono ?_; rintro e w2 ⟨rfl, hb⟩; have BM := Aside0.mk (blk_below BL.out hb); have HB2 := Aside0.mk (below_then HB.out HB.out.size hb); clear hb; have hc1 := (blk_cell BM.out 0).trans rfl; have hc2 := (blk_cell BM.out 1).trans rfl) | (go_at_call 49; refine (hP.out _ HB2.out).mono ?_; rintro e w3 ⟨⟨g, A5, c5, g8, c8, g14, c14, g18, c18, n⟩, g5, rfl, e5, en, hg, hp, r5, n5, hb⟩; dsimp only at e5 en hg hp r5 n5; subst e5; subst en; have HB3 := Aside0.mk (below_then HB2.out HB2.out.size hb); have PP := Aside0.mk (hp.lower HB2.out.size); have R5 := Aside0.mk (Kd.R_lower r5 HB2.out.size); have N5 := Aside0.mk n5; clear hb hg hp r5 n5 hc1 hc2))
  clear hT1 hT2 hP
  go_loopg [] a1.size (fun gg wr => ∃ (pos : Nat) (s' : PS), Aside0 (pos ≤ a1.size) ∧ Aside0 (a1.size - pos ≤ gg) ∧ Aside0 (wr.heap[w3.heap.size]? = some (.stringIter a1 pos)) ∧ Aside0 (Pas 51 w.heap.size ⟨g, some ⟨g5, 0, none⟩, c5, g8, c8, g14, c14, g18, c18, l0_0.length⟩ s' wr) ∧ Aside0 (Kd.R (Kd.int .i64) 3 wr w.heap.size (fun k => k = g5) (.slice (some ⟨g5, 0, none⟩) l0_0.length c5) l0_0) ∧ Aside0 (runS l0_0.length (a1.data.toList.drop pos) s' = runS l0_0.length a1.data.toList (newS l0_0 l0_1)) ∧ Aside0 (s'.lf = l0_0) ∧ Aside0 (Below w.heap.size w wr))
  case atStart => exact ⟨0, newS l0_0 l0_1, ⟨Nat.zero_le _⟩, ⟨Nat.le_of_eq (Nat.sub_zero _)⟩, ⟨by simpa using World.iter_heap w3 a1 0⟩, ⟨PP.out.alloc _⟩, ⟨Kd.R_alloc R5.out _⟩, ⟨rfl⟩, ⟨rfl⟩, ⟨below_alloc HB3.out _⟩⟩
  case round =>
    have HZ := Aside0.mk HB3.out.size
    clear PP R5 HB3 HB2 HB HA BK BL BM
    obtain ⟨pos, s', HPo, HG, HI, HP, H5, HE, HF, HB⟩ := hrel
    by_cases hp : pos < a1.size
    · have hc := HT.out pos hp
      have hi := HI.out
      have hpi := HP.out.iter hi (pos + 1) rfl (by rw [HF.out]; exact H5.out) N5.out
      have hit2 := Aside0.mk (Lib.iterAt_heap wr w3.heap.size a1 pos (pos + 1) hi)
      have hb2 := Lib.below_iterAt HB.out (k := w3.heap.size) HZ.out a1 (pos + 1)
      have hE1 := (runS_at l0_0.length a1 pos hp s').symm.trans HE.out
      have HR := Aside0.mk hpi.2
      have HS2 := Aside0.mk (hpi.1.notIter hit2.out)
      rcases hc with e1 | e1
      · have hnx : ∀ ty, (Instr.next (.pointer (some ⟨w3.heap.size, 0, none⟩)) true ty).run Tryd.prog wr = .ok (.tuple #[.bool true, .int .i64 pos, .int .i32 117]) (wr.iterAt w3.heap.size a1 (pos + 1)) := fun ty => (Lib.run_next_ascii_at wr w3.heap.size a1 pos ty hi hp (by rw [e1]; decide)).trans (by rw [e1]; rfl)
        have hcall := Aside0.mk (ship.calls w _ _ true _ hpi.1 hb2)
        have HE1 := Aside0.mk (show runS l0_0.length (a1.data.toList.drop (pos + 1)) (shipS true l0_0.length l0_0.length 0 s') = runS l0_0.length a1.data.toList (newS l0_0 l0_1) by rw [e1] at hE1; exact hE1)
        have HP2 := Aside0.mk hp
        clear hE1 hp hi hpi hb2 e1 HI HP H5 HE HB
        go_wp2_with (go_at_call 50; refine hcall.out.mono ?_; rintro e w4 ⟨rfl, p4, b4, k4⟩; have P4 := Aside0.mk p4; have B4 := Aside0.mk b4; have I4 := Aside0.mk (blk_kept hit2.out k4 HS2.out); have R4 := Aside0.mk (Kd.R_kept HR.out k4 (fun k hk => by rw [hk]; exact N5.out)); clear p4 b4 k4)
        go_roundg (a1.size - (pos + 1))
        case measure => have := HG.out; have := HP2.out; omega
        case rel => exact ⟨pos + 1, _, ⟨HP2.out⟩, ⟨Nat.le_refl _⟩, I4, P4, ⟨by have := R4.out; rw [HF.out] at this; exact this⟩, HE1, ⟨by rw [shipS_lf]; exact HF.out⟩, B4⟩
      · have hnx : ∀ ty, (Instr.next (.pointer (some ⟨w3.heap.size, 0, none⟩)) true ty).run Tryd.prog wr = .ok (.tuple #[.bool true, .int .i64 pos, .int .i32 100]) (wr.iterAt w3.heap.size a1 (pos + 1)) := fun ty => (Lib.run_next_ascii_at wr w3.heap.size a1 pos ty hi hp (by rw [e1]; decide)).trans (by rw [e1]; rfl)
        have hcall := Aside0.mk (ship.calls w _ _ false _ hpi.1 hb2)
        have HE1 := Aside0.mk (show runS l0_0.length (a1.data.toList.drop (pos + 1)) (shipS false l0_0.length l0_0.length 0 s') = runS l0_0.length a1.data.toList (newS l0_0 l0_1) by rw [e1] at hE1; exact hE1)
        have HP2 := Aside0.mk hp
        clear hE1 hp hi hpi hb2 e1 HI HP H5 HE HB
        go_wp2_with (go_at_call 50; refine hcall.out.mono ?_; rintro e w4 ⟨rfl, p4, b4, k4⟩; have P4 := Aside0.mk p4; have B4 := Aside0.mk b4; have I4 := Aside0.mk (blk_kept hit2.out k4 HS2.out); have R4 := Aside0.mk (Kd.R_kept HR.out k4 (fun k hk => by rw [hk]; exact N5.out)); clear p4 b4 k4)
        go_roundg (a1.size - (pos + 1))
        case measure => have := HG.out; have := HP2.out; omega
        case rel => exact ⟨pos + 1, _, ⟨HP2.out⟩, ⟨Nat.le_refl _⟩, I4, P4, ⟨by have := R4.out; rw [HF.out] at this; exact this⟩, HE1, ⟨by rw [shipS_lf]; exact HF.out⟩, B4⟩
    · have hnx : ∀ ty, (Instr.next (.pointer (some ⟨w3.heap.size, 0, none⟩)) true ty).run Tryd.prog wr = _ := fun ty => Lib.run_next_end_at wr w3.heap.size a1 pos ty HI.out hp
      have HE1 := Aside0.mk ((runS_end l0_0.length a1 pos hp s').symm.trans HE.out)
      clear hp
      go_wp2
      go_ret2
      exact ⟨_, g5, rfl, rfl, rfl, by rw [← HE1.out]; exact HP.out, H5.out, N5.out, HB.out⟩

end Go.Proofs.YtmedapafllmhjaaDoor.PFnExactStretchChanges

/- Lean functions of the Go functions that the law FnExactLeastTraffic reaches, and the proofs that the calls come to what they say (made by program). -/
import Derived.Laws.BytesArg
import Derived.Test.YtminippcikenfaaPFnExactLeastTrafficx0
import Derived.Test.YtminippcikenfaaPFnExactLeastTrafficx2
import Derived.Test.YtminippcikenfaaPFnExactLeastTrafficx3
namespace Go.Proofs.Ytminippcikenfaa.PFnExactLeastTraffic
open Go.RowKit Go.Proofs.YtminippcikenfaaW.PrintWords Go.Proofs.YtminippcikenfaaW.PrintLast Go.Proofs.YtminippcikenfaaW.PrintMore
attribute [local go_sem] max2_int min2_int max_two min_two max_three min_three max_four min_four   -- for this text's walks alone
set_option linter.unusedVariables false
set_option linter.unusedSimpArgs false

/-! ### impl_LeastTraffic: function 43 -/
theorem cost_lt {m : Nat} (h : m ≤ 20) : 0 + cost m < maxLen := by
  have h1 : ∀ k : Fin 21, cost k.val ≤ 2097151 := by decide
  have h2 := h1 ⟨m, by omega⟩
  have h3 : 2097151 < maxLen := by decide
  dsimp only at h2
  omega
theorem MapOk.ne_cells {bet : Int → Int → Int} {b n g T : Nat} {w : World} {cs : Array Value} (h : MapOk bet b n w) (hg : w.heap[g]? = some (.cells cs T (0, 0))) : b ≠ g := fun e => by
  obtain ⟨es, clock, hb, _⟩ := h
  rw [e, hg] at hb
  cases Option.some.inj hb
attribute [local go_sem] run_store_func
theorem ltStart_op0 : (opsOf Try.f43 3)[0]? = some { dst := (some 16), op := (Op.call { callee := (Callee.value (Operand.func 72)), args := #[(Operand.func 69)], argTypes := #[102] }), type := 109, pos := "l8_lock.go:235", after := #[], guard := none } := by kernel_rfl
theorem ltStart_op9 : (opsOf Try.f43 3)[9]? = some { dst := (some 25), op := (Op.buildSlice 111 0 #[]), type := 111, pos := "l8_lock.go:235", after := #[{ on := 12, ground := (Ground.gcOnly Departure.lateStores) }], guard := none } := by kernel_rfl
theorem ltStart_op10 : (opsOf Try.f43 3)[10]? = some { dst := (some 8), op := (Op.alloc 109), type := 0, pos := "l8_lock.go:235", after := #[], guard := none } := by kernel_rfl
theorem ltStart_op11 : (opsOf Try.f43 3)[11]? = some { dst := none, op := (Op.store 109 (Operand.tmp 8) (Operand.tmp 16)), type := 0, pos := "l8_lock.go:235", after := #[{ on := 10, ground := Ground.data }, { on := 0, ground := Ground.data }, { on := 0, ground := Ground.chain }, { on := 0, ground := Ground.phase }, { on := 1, ground := (Ground.textOnly Departure.lateStores) }, { on := 2, ground := (Ground.textOnly Departure.lateStores) }, { on := 3, ground := (Ground.textOnly Departure.lateStores) }, { on := 4, ground := (Ground.textOnly Departure.lateStores) }, { on := 5, ground := (Ground.textOnly Departure.lateStoresUnsure) }, { on := 6, ground := (Ground.textOnly Departure.lateStores) }, { on := 7, ground := (Ground.textOnly Departure.lateStores) }, { on := 8, ground := (Ground.textOnly Departure.lateStores) }, { on := 9, ground := (Ground.textOnly Departure.lateStores) }, { on := 10, ground := Ground.phase }], guard := none } := by kernel_rfl
theorem ltStart_op12 : (opsOf Try.f43 3)[12]? = some { dst := (some 9), op := (Op.assign (Operand.tmp 24)), type := 4, pos := "l8_lock.go:235", after := #[{ on := 8, ground := Ground.data }, { on := 11, ground := Ground.chain }, { on := 0, ground := Ground.phase }, { on := 1, ground := Ground.phase }, { on := 2, ground := Ground.phase }, { on := 3, ground := Ground.phase }, { on := 4, ground := Ground.phase }, { on := 5, ground := Ground.phase }, { on := 6, ground := Ground.phase }, { on := 7, ground := Ground.phase }, { on := 8, ground := Ground.phase }, { on := 9, ground := (Ground.textOnly Departure.lateStores) }, { on := 10, ground := Ground.phase }, { on := 11, ground := Ground.phase }], guard := none } := by kernel_rfl
theorem ltStart_op13 : (opsOf Try.f43 3)[13]? = some { dst := (some 10), op := (Op.assign (Operand.tmp 25)), type := 111, pos := "l8_lock.go:235", after := #[{ on := 9, ground := Ground.data }, { on := 12, ground := Ground.chain }, { on := 0, ground := Ground.phase }, { on := 1, ground := Ground.phase }, { on := 2, ground := Ground.phase }, { on := 3, ground := Ground.phase }, { on := 4, ground := Ground.phase }, { on := 5, ground := Ground.phase }, { on := 6, ground := Ground.phase }, { on := 7, ground := Ground.phase }, { on := 8, ground := Ground.phase }, { on := 9, ground := Ground.phase }, { on := 10, ground := Ground.phase }, { on := 11, ground := Ground.phase }, { on := 12, ground := Ground.phase }], guard := none } := by kernel_rfl
set_option maxHeartbeats 4000000 in
set_option maxRecDepth 100000 in
theorem ltStart_region (A0_0 : Option Addr) (c0_0 : Nat) (l0_0 : List Int) (ad1 : Addr) (c0_1 : Nat) (l0_1 : List Bool) (x y top : Int) (rb : Nat) (w : World) (Q : Exit → Act → World → Prop) (hQ : ∀ c a d v W, Q (.panic c) (a.put d v) W → Q (.panic c) a W)
    (h0 : w.cell? ⟨rb, 0, none⟩ = some (.slice A0_0 l0_0.length c0_0)) (h1 : w.cell? ⟨rb, 1, none⟩ = some (.slice (some ad1) l0_1.length c0_1)) (h2 : w.cell? (ad1.add top.toNat) = some (.bool (rdOf false l0_1 top)))
    (h_0_9_10_11_12 : ∀ (b : Nat) (v25 : Value) (gb : Nat) (W : World), Go.RowKit.Below w.heap.size w W → MapOk mn b 0 W → w.heap.size ≤ b → Kd.R (Kd.int .u8) 5 W w.heap.size (fun _ => True) v25 [] → W.heap[gb]? = some (.cells #[.func (.func 69) #[] #[], .map (some b)] 109 (0, 0)) → w.heap.size ≤ gb → wpAnyLast Try.prog .any (opsOf Try.f43 3) Q (fun w' : World => w'.cell? ⟨rb, 0, none⟩ = some (.slice A0_0 l0_0.length c0_0) ∧ w'.cell? ⟨rb, 1, none⟩ = some (.slice (some ad1) l0_1.length c0_1) ∧ w'.cell? (ad1.add top.toNat) = some (.bool (rdOf false l0_1 top))) [] 1 #[true, true, true, true, true, true, true, true, true, true, true, true, true, false] { tmps := #[.agg #[.slice A0_0 l0_0.length c0_0, .slice (some ad1) l0_1.length c0_1], .int .i64 x, .int .i64 y, .pointer (some ⟨rb, 0, none⟩), undef, undef, .string ⟨#[]⟩, .bool false, .pointer (some ⟨gb, 0, none⟩), .bool (rdOf false l0_1 top), undef, .agg #[.slice A0_0 l0_0.length c0_0, .slice (some ad1) l0_1.length c0_1], .int .i64 x, .int .i64 y, .bool true, .bool false, .agg #[.func (.func 69) #[] #[], .map (some b)], .pointer (some ⟨rb, 1, none⟩), .slice (some ad1) l0_1.length c0_1, .pointer (some ⟨rb, 1, none⟩), .slice (some ad1) l0_1.length c0_1, .int .i64 (l0_1.length : Int), .int .i64 (wrap64 ((l0_1.length : Int) - 1)), .pointer (some (ad1.add top.toNat)), .bool (rdOf false l0_1 top), v25, undef, undef, undef, undef, undef, undef, undef, undef, undef, undef, undef, undef, undef, undef, undef, undef, undef, undef, undef, undef, undef, undef, undef, undef, undef, undef, undef, undef, undef, undef, undef, undef, undef], defers := [] } W)
    (W : World) (HB : Go.RowKit.Below w.heap.size w W) : wpAnyLast Try.prog .any (opsOf Try.f43 3) Q (fun w' : World => w'.cell? ⟨rb, 0, none⟩ = some (.slice A0_0 l0_0.length c0_0) ∧ w'.cell? ⟨rb, 1, none⟩ = some (.slice (some ad1) l0_1.length c0_1) ∧ w'.cell? (ad1.add top.toNat) = some (.bool (rdOf false l0_1 top))) [] 6 #[false, true, true, true, true, true, true, true, true, false, false, false, false, false] { tmps := #[.agg #[.slice A0_0 l0_0.length c0_0, .slice (some ad1) l0_1.length c0_1], .int .i64 x, .int .i64 y, .pointer (some ⟨rb, 0, none⟩), undef, undef, .string ⟨#[]⟩, .bool false, undef, undef, undef, .agg #[.slice A0_0 l0_0.length c0_0, .slice (some ad1) l0_1.length c0_1], .int .i64 x, .int .i64 y, .bool true, .bool false, undef, .pointer (some ⟨rb, 1, none⟩), .slice (some ad1) l0_1.length c0_1, .pointer (some ⟨rb, 1, none⟩), .slice (some ad1) l0_1.length c0_1, .int .i64 (l0_1.length : Int), .int .i64 (wrap64 ((l0_1.length : Int) - 1)), .pointer (some (ad1.add top.toNat)), .bool (rdOf false l0_1 top), undef, undef, undef, undef, undef, undef, undef, undef, undef, undef, undef, undef, undef, undef, undef, undef, undef, undef, undef, undef, undef, undef, undef, undef, undef, undef, undef, undef, undef, undef, undef, undef, undef, undef], defers := [] } W := by
  have hu109 := Try.underlying109
  have h_0_9_10_11 : ∀ (b : Nat) (v25 : Value) (gb : Nat) (W : World), Go.RowKit.Below w.heap.size w W → MapOk mn b 0 W → w.heap.size ≤ b → Kd.R (Kd.int .u8) 5 W w.heap.size (fun _ => True) v25 [] → W.heap[gb]? = some (.cells #[.func (.func 69) #[] #[], .map (some b)] 109 (0, 0)) → w.heap.size ≤ gb → wpAnyLast Try.prog .any (opsOf Try.f43 3) Q (fun w' : World => w'.cell? ⟨rb, 0, none⟩ = some (.slice A0_0 l0_0.length c0_0) ∧ w'.cell? ⟨rb, 1, none⟩ = some (.slice (some ad1) l0_1.length c0_1) ∧ w'.cell? (ad1.add top.toNat) = some (.bool (rdOf false l0_1 top))) [] 2 #[true, true, true, true, true, true, true, true, true, true, true, true, false, false] { tmps := #[.agg #[.slice A0_0 l0_0.length c0_0, .slice (some ad1) l0_1.length c0_1], .int .i64 x, .int .i64 y, .pointer (some ⟨rb, 0, none⟩), undef, undef, .string ⟨#[]⟩, .bool false, .pointer (some ⟨gb, 0, none⟩), undef, undef, .agg #[.slice A0_0 l0_0.length c0_0, .slice (some ad1) l0_1.length c0_1], .int .i64 x, .int .i64 y, .bool true, .bool false, .agg #[.func (.func 69) #[] #[], .map (some b)], .pointer (some ⟨rb, 1, none⟩), .slice (some ad1) l0_1.length c0_1, .pointer (some ⟨rb, 1, none⟩), .slice (some ad1) l0_1.length c0_1, .int .i64 (l0_1.length : Int), .int .i64 (wrap64 ((l0_1.length : Int) - 1)), .pointer (some (ad1.add top.toNat)), .bool (rdOf false l0_1 top), v25, undef, undef, undef, undef, undef, undef, undef, undef, undef, undef, undef, undef, undef, undef, undef, undef, undef, undef, undef, undef, undef, undef, undef, undef, undef, undef, undef, undef, undef, undef, undef, undef, undef], defers := [] } W := by
    intro b v25 gb W HB HM Hb HR HG Hg
    refine pure_ (i := 12) (N := some 9) (v := .bool (rdOf false l0_1 top)) (a' := { tmps := #[.agg #[.slice A0_0 l0_0.length c0_0, .slice (some ad1) l0_1.length c0_1], .int .i64 x, .int .i64 y, .pointer (some ⟨rb, 0, none⟩), undef, undef, .string ⟨#[]⟩, .bool false, .pointer (some ⟨gb, 0, none⟩), .bool (rdOf false l0_1 top), undef, .agg #[.slice A0_0 l0_0.length c0_0, .slice (some ad1) l0_1.length c0_1], .int .i64 x, .int .i64 y, .bool true, .bool false, .agg #[.func (.func 69) #[] #[], .map (some b)], .pointer (some ⟨rb, 1, none⟩), .slice (some ad1) l0_1.length c0_1, .pointer (some ⟨rb, 1, none⟩), .slice (some ad1) l0_1.length c0_1, .int .i64 (l0_1.length : Int), .int .i64 (wrap64 ((l0_1.length : Int) - 1)), .pointer (some (ad1.add top.toNat)), .bool (rdOf false l0_1 top), v25, undef, undef, undef, undef, undef, undef, undef, undef, undef, undef, undef, undef, undef, undef, undef, undef, undef, undef, undef, undef, undef, undef, undef, undef, undef, undef, undef, undef, undef, undef, undef, undef, undef], defers := [] }) #[true, true, true, true, true, true, true, true, true, true, true, true, true, false] ltStart_op12 rfl (by kernel_rfl) (fun _ _ _ h => hQ _ _ _ _ _ h) (Or.inl ⟨by rfl, ?_⟩) (by simp only [Act.put, List.setIfInBounds_toArray, List.set_cons_zero, List.set_cons_succ]) ?_
    · intro w'
      go_simp
      first | done | rfl
    exact h_0_9_10_11_12 b v25 gb W HB HM Hb HR HG Hg
  have h_0_10_11_12 : ∀ (b : Nat) (gb : Nat) (W : World), Go.RowKit.Below w.heap.size w W → MapOk mn b 0 W → w.heap.size ≤ b → W.heap[gb]? = some (.cells #[.func (.func 69) #[] #[], .map (some b)] 109 (0, 0)) → w.heap.size ≤ gb → wpAnyLast Try.prog .any (opsOf Try.f43 3) Q (fun w' : World => w'.cell? ⟨rb, 0, none⟩ = some (.slice A0_0 l0_0.length c0_0) ∧ w'.cell? ⟨rb, 1, none⟩ = some (.slice (some ad1) l0_1.length c0_1) ∧ w'.cell? (ad1.add top.toNat) = some (.bool (rdOf false l0_1 top))) [] 2 #[true, true, true, true, true, true, true, true, true, false, true, true, true, false] { tmps := #[.agg #[.slice A0_0 l0_0.length c0_0, .slice (some ad1) l0_1.length c0_1], .int .i64 x, .int .i64 y, .pointer (some ⟨rb, 0, none⟩), undef, undef, .string ⟨#[]⟩, .bool false, .pointer (some ⟨gb, 0, none⟩), .bool (rdOf false l0_1 top), undef, .agg #[.slice A0_0 l0_0.length c0_0, .slice (some ad1) l0_1.length c0_1], .int .i64 x, .int .i64 y, .bool true, .bool false, .agg #[.func (.func 69) #[] #[], .map (some b)], .pointer (some ⟨rb, 1, none⟩), .slice (some ad1) l0_1.length c0_1, .pointer (some ⟨rb, 1, none⟩), .slice (some ad1) l0_1.length c0_1, .int .i64 (l0_1.length : Int), .int .i64 (wrap64 ((l0_1.length : Int) - 1)), .pointer (some (ad1.add top.toNat)), .bool (rdOf false l0_1 top), undef, undef, undef, undef, undef, undef, undef, undef, undef, undef, undef, undef, undef, undef, undef, undef, undef, undef, undef, undef, undef, undef, undef, undef, undef, undef, undef, undef, undef, undef, undef, undef, undef, undef], defers := [] } W := by
    intro b gb W HB HM Hb HG Hg
    refine wpAnyLast_ready (rs := [9]) (by kernel_rfl) (by simp) (AllReadyL.cons (i := 9) ltStart_op9 (by decide) (fun K hK => ?a9) AllReadyL.nil)
    case a9 =>
      refine Kd.R_lit_step (Kd.int .u8) (w0 := W) W.heap.size 5 rfl (N := 25) rfl (xs := []) (inner := []) (ok := fun _ => True) (okp := fun _ => True) ?hr (Reps.none _ _) (fun _ h => h) trivial (Go.RowKit.Below.refl _ _) (Nat.le_refl _) (by simp) ?_
      case hr => first | (go_simp; done) | (go_simp; rfl)
      intro v25 W2 ho hb hg_ hn_
      have HB2 := below_then HB HB.size hb
      refine hK.out _ _ ⟨pw_cell_below HB2 h0, pw_cell_below HB2 h1, pw_cell_below HB2 h2⟩ (fun _ => ?_)
      refine norm_ (a' := { tmps := #[.agg #[.slice A0_0 l0_0.length c0_0, .slice (some ad1) l0_1.length c0_1], .int .i64 x, .int .i64 y, .pointer (some ⟨rb, 0, none⟩), undef, undef, .string ⟨#[]⟩, .bool false, .pointer (some ⟨gb, 0, none⟩), .bool (rdOf false l0_1 top), undef, .agg #[.slice A0_0 l0_0.length c0_0, .slice (some ad1) l0_1.length c0_1], .int .i64 x, .int .i64 y, .bool true, .bool false, .agg #[.func (.func 69) #[] #[], .map (some b)], .pointer (some ⟨rb, 1, none⟩), .slice (some ad1) l0_1.length c0_1, .pointer (some ⟨rb, 1, none⟩), .slice (some ad1) l0_1.length c0_1, .int .i64 (l0_1.length : Int), .int .i64 (wrap64 ((l0_1.length : Int) - 1)), .pointer (some (ad1.add top.toNat)), .bool (rdOf false l0_1 top), v25, undef, undef, undef, undef, undef, undef, undef, undef, undef, undef, undef, undef, undef, undef, undef, undef, undef, undef, undef, undef, undef, undef, undef, undef, undef, undef, undef, undef, undef, undef, undef, undef, undef], defers := [] }) (by show Act.put _ (some 25) _ = _; simp only [Act.put, List.setIfInBounds_toArray, List.set_cons_zero, List.set_cons_succ]) ?_
      exact h_0_9_10_11_12 b v25 gb W2 HB2 (HM.same (hb.block b HM.lt)) Hb (Kd.R_lower ho HB.size) (blk_below HG hb) Hg
  have h_0_9_10 : ∀ (b : Nat) (v25 : Value) (gb : Nat) (W : World), Go.RowKit.Below w.heap.size w W → MapOk mn b 0 W → w.heap.size ≤ b → Kd.R (Kd.int .u8) 5 W w.heap.size (fun _ => True) v25 [] → W.heap[gb]? = some (.cells #[.nilFunc, .map none] 109 (0, 0)) → w.heap.size ≤ gb → wpAnyLast Try.prog .any (opsOf Try.f43 3) Q (fun w' : World => w'.cell? ⟨rb, 0, none⟩ = some (.slice A0_0 l0_0.length c0_0) ∧ w'.cell? ⟨rb, 1, none⟩ = some (.slice (some ad1) l0_1.length c0_1) ∧ w'.cell? (ad1.add top.toNat) = some (.bool (rdOf false l0_1 top))) [] 3 #[true, true, true, true, true, true, true, true, true, true, true, false, false, false] { tmps := #[.agg #[.slice A0_0 l0_0.length c0_0, .slice (some ad1) l0_1.length c0_1], .int .i64 x, .int .i64 y, .pointer (some ⟨rb, 0, none⟩), undef, undef, .string ⟨#[]⟩, .bool false, .pointer (some ⟨gb, 0, none⟩), undef, undef, .agg #[.slice A0_0 l0_0.length c0_0, .slice (some ad1) l0_1.length c0_1], .int .i64 x, .int .i64 y, .bool true, .bool false, .agg #[.func (.func 69) #[] #[], .map (some b)], .pointer (some ⟨rb, 1, none⟩), .slice (some ad1) l0_1.length c0_1, .pointer (some ⟨rb, 1, none⟩), .slice (some ad1) l0_1.length c0_1, .int .i64 (l0_1.length : Int), .int .i64 (wrap64 ((l0_1.length : Int) - 1)), .pointer (some (ad1.add top.toNat)), .bool (rdOf false l0_1 top), v25, undef, undef, undef, undef, undef, undef, undef, undef, undef, undef, undef, undef, undef, undef, undef, undef, undef, undef, undef, undef, undef, undef, undef, undef, undef, undef, undef, undef, undef, undef, undef, undef, undef], defers := [] } W := by
    intro b v25 gb W HB HM Hb HR HG Hg
    refine wpAnyLast_ready (rs := [11]) (by kernel_rfl) (by simp) (AllReadyL.cons (i := 11) ltStart_op11 (by decide) (fun K hK => ?a11) AllReadyL.nil)
    case a11 =>
      have hb0 := (blk_cell HG 0).trans rfl
      have hb1 := (blk_cell HG 1).trans rfl
      have hf0 := blk_frozen HG 0
      have hf1 := blk_frozen HG 1
      refine skip_ (w1 := (W.setCell ⟨gb, 0, none⟩ (.func (.func 69) #[] #[])).setCell ⟨gb, 1, none⟩ (.map (some b))) rfl rfl ?_ ?_
      · go_simp
        first | done | rfl
      have HB2 := below_set (j := 1) (v := .map (some b)) (below_set (j := 0) (v := .func (.func 69) #[] #[]) HB Hg) Hg
      have hgb : b ≠ gb := HM.ne_cells HG
      refine hK.out _ _ ⟨pw_cell_below HB2 h0, pw_cell_below HB2 h1, pw_cell_below HB2 h2⟩ (fun _ => ?_)
      exact h_0_9_10_11 b v25 gb _ HB2 (HM.same ((Below.heap_setCell _ _ _ _ hgb).trans (Below.heap_setCell _ _ _ _ hgb))) Hb (Kd.R_set (Kd.R_set HR HG (by decide) 0 _) (blk_put (cs := #[.nilFunc, .map none]) HG 0 _ rfl) (by decide) 1 _) (blk_put (blk_put (cs := #[.nilFunc, .map none]) HG 0 _ rfl) 1 _ rfl) Hg
  have h_0_9 : ∀ (b : Nat) (v25 : Value) (W : World), Go.RowKit.Below w.heap.size w W → MapOk mn b 0 W → w.heap.size ≤ b → Kd.R (Kd.int .u8) 5 W w.heap.size (fun _ => True) v25 [] → wpAnyLast Try.prog .any (opsOf Try.f43 3) Q (fun w' : World => w'.cell? ⟨rb, 0, none⟩ = some (.slice A0_0 l0_0.length c0_0) ∧ w'.cell? ⟨rb, 1, none⟩ = some (.slice (some ad1) l0_1.length c0_1) ∧ w'.cell? (ad1.add top.toNat) = some (.bool (rdOf false l0_1 top))) [] 4 #[true, true, true, true, true, true, true, true, true, true, false, false, false, false] { tmps := #[.agg #[.slice A0_0 l0_0.length c0_0, .slice (some ad1) l0_1.length c0_1], .int .i64 x, .int .i64 y, .pointer (some ⟨rb, 0, none⟩), undef, undef, .string ⟨#[]⟩, .bool false, undef, undef, undef, .agg #[.slice A0_0 l0_0.length c0_0, .slice (some ad1) l0_1.length c0_1], .int .i64 x, .int .i64 y, .bool true, .bool false, .agg #[.func (.func 69) #[] #[], .map (some b)], .pointer (some ⟨rb, 1, none⟩), .slice (some ad1) l0_1.length c0_1, .pointer (some ⟨rb, 1, none⟩), .slice (some ad1) l0_1.length c0_1, .int .i64 (l0_1.length : Int), .int .i64 (wrap64 ((l0_1.length : Int) - 1)), .pointer (some (ad1.add top.toNat)), .bool (rdOf false l0_1 top), v25, undef, undef, undef, undef, undef, undef, undef, undef, undef, undef, undef, undef, undef, undef, undef, undef, undef, undef, undef, undef, undef, undef, undef, undef, undef, undef, undef, undef, undef, undef, undef, undef, undef], defers := [] } W := by
    intro b v25 W HB HM Hb HR
    refine wpAnyLast_ready (rs := [10]) (by kernel_rfl) (by simp) (AllReadyL.cons (i := 10) ltStart_op10 (by decide) (fun K hK => ?a10) AllReadyL.nil)
    case a10 =>
      refine value_ (v := .pointer (some ⟨W.heap.size, 0, none⟩)) (w1 := W.alloc (.cells #[.nilFunc, .map none] 109)) rfl rfl ?_ ?_
      · go_simp
        first | done | rfl
      have hb := below_alloc (Go.RowKit.Below.refl W.heap.size W) (.cells #[.nilFunc, .map none] 109)
      have HB2 := below_then HB HB.size hb
      refine hK.out _ _ ⟨pw_cell_below HB2 h0, pw_cell_below HB2 h1, pw_cell_below HB2 h2⟩ (fun _ => ?_)
      refine norm_ (a' := { tmps := #[.agg #[.slice A0_0 l0_0.length c0_0, .slice (some ad1) l0_1.length c0_1], .int .i64 x, .int .i64 y, .pointer (some ⟨rb, 0, none⟩), undef, undef, .string ⟨#[]⟩, .bool false, .pointer (some ⟨W.heap.size, 0, none⟩), undef, undef, .agg #[.slice A0_0 l0_0.length c0_0, .slice (some ad1) l0_1.length c0_1], .int .i64 x, .int .i64 y, .bool true, .bool false, .agg #[.func (.func 69) #[] #[], .map (some b)], .pointer (some ⟨rb, 1, none⟩), .slice (some ad1) l0_1.length c0_1, .pointer (some ⟨rb, 1, none⟩), .slice (some ad1) l0_1.length c0_1, .int .i64 (l0_1.length : Int), .int .i64 (wrap64 ((l0_1.length : Int) - 1)), .pointer (some (ad1.add top.toNat)), .bool (rdOf false l0_1 top), v25, undef, undef, undef, undef, undef, undef, undef, undef, undef, undef, undef, undef, undef, undef, undef, undef, undef, undef, undef, undef, undef, undef, undef, undef, undef, undef, undef, undef, undef, undef, undef, undef, undef], defers := [] }) (by show Act.put _ (some 8) _ = _; simp only [Act.put, List.setIfInBounds_toArray, List.set_cons_zero, List.set_cons_succ]) ?_
      exact h_0_9_10 b v25 W.heap.size (W.alloc (.cells #[.nilFunc, .map none] 109)) HB2 (HM.same (hb.block b HM.lt)) Hb (Kd.R_below HR hb) (hw_new0 W (.cells #[.nilFunc, .map none] 109)) HB.size
  have h_0_10 : ∀ (b : Nat) (gb : Nat) (W : World), Go.RowKit.Below w.heap.size w W → MapOk mn b 0 W → w.heap.size ≤ b → W.heap[gb]? = some (.cells #[.nilFunc, .map none] 109 (0, 0)) → w.heap.size ≤ gb → wpAnyLast Try.prog .any (opsOf Try.f43 3) Q (fun w' : World => w'.cell? ⟨rb, 0, none⟩ = some (.slice A0_0 l0_0.length c0_0) ∧ w'.cell? ⟨rb, 1, none⟩ = some (.slice (some ad1) l0_1.length c0_1) ∧ w'.cell? (ad1.add top.toNat) = some (.bool (rdOf false l0_1 top))) [] 4 #[true, true, true, true, true, true, true, true, true, false, true, false, false, false] { tmps := #[.agg #[.slice A0_0 l0_0.length c0_0, .slice (some ad1) l0_1.length c0_1], .int .i64 x, .int .i64 y, .pointer (some ⟨rb, 0, none⟩), undef, undef, .string ⟨#[]⟩, .bool false, .pointer (some ⟨gb, 0, none⟩), undef, undef, .agg #[.slice A0_0 l0_0.length c0_0, .slice (some ad1) l0_1.length c0_1], .int .i64 x, .int .i64 y, .bool true, .bool false, .agg #[.func (.func 69) #[] #[], .map (some b)], .pointer (some ⟨rb, 1, none⟩), .slice (some ad1) l0_1.length c0_1, .pointer (some ⟨rb, 1, none⟩), .slice (some ad1) l0_1.length c0_1, .int .i64 (l0_1.length : Int), .int .i64 (wrap64 ((l0_1.length : Int) - 1)), .pointer (some (ad1.add top.toNat)), .bool (rdOf false l0_1 top), undef, undef, undef, undef, undef, undef, undef, undef, undef, undef, undef, undef, undef, undef, undef, undef, undef, undef, undef, undef, undef, undef, undef, undef, undef, undef, undef, undef, undef, undef, undef, undef, undef, undef], defers := [] } W := by
    intro b gb W HB HM Hb HG Hg
    refine wpAnyLast_ready (rs := [9, 11]) (by kernel_rfl) (by simp) (AllReadyL.cons (i := 9) ltStart_op9 (by decide) (fun K hK => ?a9) (AllReadyL.cons (i := 11) ltStart_op11 (by decide) (fun K hK => ?a11) AllReadyL.nil))
    case a9 =>
      refine Kd.R_lit_step (Kd.int .u8) (w0 := W) W.heap.size 5 rfl (N := 25) rfl (xs := []) (inner := []) (ok := fun _ => True) (okp := fun _ => True) ?hr (Reps.none _ _) (fun _ h => h) trivial (Go.RowKit.Below.refl _ _) (Nat.le_refl _) (by simp) ?_
      case hr => first | (go_simp; done) | (go_simp; rfl)
      intro v25 W2 ho hb hg_ hn_
      have HB2 := below_then HB HB.size hb
      refine hK.out _ _ ⟨pw_cell_below HB2 h0, pw_cell_below HB2 h1, pw_cell_below HB2 h2⟩ (fun _ => ?_)
      refine norm_ (a' := { tmps := #[.agg #[.slice A0_0 l0_0.length c0_0, .slice (some ad1) l0_1.length c0_1], .int .i64 x, .int .i64 y, .pointer (some ⟨rb, 0, none⟩), undef, undef, .string ⟨#[]⟩, .bool false, .pointer (some ⟨gb, 0, none⟩), undef, undef, .agg #[.slice A0_0 l0_0.length c0_0, .slice (some ad1) l0_1.length c0_1], .int .i64 x, .int .i64 y, .bool true, .bool false, .agg #[.func (.func 69) #[] #[], .map (some b)], .pointer (some ⟨rb, 1, none⟩), .slice (some ad1) l0_1.length c0_1, .pointer (some ⟨rb, 1, none⟩), .slice (some ad1) l0_1.length c0_1, .int .i64 (l0_1.length : Int), .int .i64 (wrap64 ((l0_1.length : Int) - 1)), .pointer (some (ad1.add top.toNat)), .bool (rdOf false l0_1 top), v25, undef, undef, undef, undef, undef, undef, undef, undef, undef, undef, undef, undef, undef, undef, undef, undef, undef, undef, undef, undef, undef, undef, undef, undef, undef, undef, undef, undef, undef, undef, undef, undef, undef], defers := [] }) (by show Act.put _ (some 25) _ = _; simp only [Act.put, List.setIfInBounds_toArray, List.set_cons_zero, List.set_cons_succ]) ?_
      exact h_0_9_10 b v25 gb W2 HB2 (HM.same (hb.block b HM.lt)) Hb (Kd.R_lower ho HB.size) (blk_below HG hb) Hg
    case a11 =>
      have hb0 := (blk_cell HG 0).trans rfl
      have hb1 := (blk_cell HG 1).trans rfl
      have hf0 := blk_frozen HG 0
      have hf1 := blk_frozen HG 1
      refine skip_ (w1 := (W.setCell ⟨gb, 0, none⟩ (.func (.func 69) #[] #[])).setCell ⟨gb, 1, none⟩ (.map (some b))) rfl rfl ?_ ?_
      · go_simp
        first | done | rfl
      have HB2 := below_set (j := 1) (v := .map (some b)) (below_set (j := 0) (v := .func (.func 69) #[] #[]) HB Hg) Hg
      have hgb : b ≠ gb := HM.ne_cells HG
      refine hK.out _ _ ⟨pw_cell_below HB2 h0, pw_cell_below HB2 h1, pw_cell_below HB2 h2⟩ (fun _ => ?_)
      refine pure_ (i := 12) (N := some 9) (v := .bool (rdOf false l0_1 top)) (a' := { tmps := #[.agg #[.slice A0_0 l0_0.length c0_0, .slice (some ad1) l0_1.length c0_1], .int .i64 x, .int .i64 y, .pointer (some ⟨rb, 0, none⟩), undef, undef, .string ⟨#[]⟩, .bool false, .pointer (some ⟨gb, 0, none⟩), .bool (rdOf false l0_1 top), undef, .agg #[.slice A0_0 l0_0.length c0_0, .slice (some ad1) l0_1.length c0_1], .int .i64 x, .int .i64 y, .bool true, .bool false, .agg #[.func (.func 69) #[] #[], .map (some b)], .pointer (some ⟨rb, 1, none⟩), .slice (some ad1) l0_1.length c0_1, .pointer (some ⟨rb, 1, none⟩), .slice (some ad1) l0_1.length c0_1, .int .i64 (l0_1.length : Int), .int .i64 (wrap64 ((l0_1.length : Int) - 1)), .pointer (some (ad1.add top.toNat)), .bool (rdOf false l0_1 top), undef, undef, undef, undef, undef, undef, undef, undef, undef, undef, undef, undef, undef, undef, undef, undef, undef, undef, undef, undef, undef, undef, undef, undef, undef, undef, undef, undef, undef, undef, undef, undef, undef, undef], defers := [] }) #[true, true, true, true, true, true, true, true, true, false, true, true, true, false] ltStart_op12 rfl (by kernel_rfl) (fun _ _ _ h => hQ _ _ _ _ _ h) (Or.inl ⟨by rfl, ?_⟩) (by simp only [Act.put, List.setIfInBounds_toArray, List.set_cons_zero, List.set_cons_succ]) ?_
      · intro w'
        go_simp
        first | done | rfl
      exact h_0_10_11_12 b gb _ HB2 (HM.same ((Below.heap_setCell _ _ _ _ hgb).trans (Below.heap_setCell _ _ _ _ hgb))) Hb (blk_put (blk_put (cs := #[.nilFunc, .map none]) HG 0 _ rfl) 1 _ rfl) Hg
  have h_9_10 : ∀ (v25 : Value) (gb : Nat) (W : World), Go.RowKit.Below w.heap.size w W → Kd.R (Kd.int .u8) 5 W w.heap.size (fun _ => True) v25 [] → W.heap[gb]? = some (.cells #[.nilFunc, .map none] 109 (0, 0)) → w.heap.size ≤ gb → wpAnyLast Try.prog .any (opsOf Try.f43 3) Q (fun w' : World => w'.cell? ⟨rb, 0, none⟩ = some (.slice A0_0 l0_0.length c0_0) ∧ w'.cell? ⟨rb, 1, none⟩ = some (.slice (some ad1) l0_1.length c0_1) ∧ w'.cell? (ad1.add top.toNat) = some (.bool (rdOf false l0_1 top))) [] 4 #[false, true, true, true, true, true, true, true, true, true, true, false, false, false] { tmps := #[.agg #[.slice A0_0 l0_0.length c0_0, .slice (some ad1) l0_1.length c0_1], .int .i64 x, .int .i64 y, .pointer (some ⟨rb, 0, none⟩), undef, undef, .string ⟨#[]⟩, .bool false, .pointer (some ⟨gb, 0, none⟩), undef, undef, .agg #[.slice A0_0 l0_0.length c0_0, .slice (some ad1) l0_1.length c0_1], .int .i64 x, .int .i64 y, .bool true, .bool false, undef, .pointer (some ⟨rb, 1, none⟩), .slice (some ad1) l0_1.length c0_1, .pointer (some ⟨rb, 1, none⟩), .slice (some ad1) l0_1.length c0_1, .int .i64 (l0_1.length : Int), .int .i64 (wrap64 ((l0_1.length : Int) - 1)), .pointer (some (ad1.add top.toNat)), .bool (rdOf false l0_1 top), v25, undef, undef, undef, undef, undef, undef, undef, undef, undef, undef, undef, undef, undef, undef, undef, undef, undef, undef, undef, undef, undef, undef, undef, undef, undef, undef, undef, undef, undef, undef, undef, undef, undef], defers := [] } W := by
    intro v25 gb W HB HR HG Hg
    refine wpAnyLast_ready (rs := [0]) (by kernel_rfl) (by simp) (AllReadyL.cons (i := 0) ltStart_op0 (by decide) (fun K hK => ?a0) AllReadyL.nil)
    case a0 =>
      refine goes_ Try.func72 (by kernel_rfl) rfl #[.func (.func 69) #[] #[]] (by rfl) rfl rfl (by (try simp only [List.map_toArray, List.map_cons, List.map_nil]); first | done | rfl) ?_
      refine (ordersOf.calls 69 mn W).mono ?_
      rintro e W2 ⟨b, rfl, hbb, hM, hb⟩
      refine ⟨_, rfl, ?_⟩
      have HB2 := below_then HB HB.size hb
      refine hK.out _ _ ⟨pw_cell_below HB2 h0, pw_cell_below HB2 h1, pw_cell_below HB2 h2⟩ (fun _ => ?_)
      refine norm_ (a' := { tmps := #[.agg #[.slice A0_0 l0_0.length c0_0, .slice (some ad1) l0_1.length c0_1], .int .i64 x, .int .i64 y, .pointer (some ⟨rb, 0, none⟩), undef, undef, .string ⟨#[]⟩, .bool false, .pointer (some ⟨gb, 0, none⟩), undef, undef, .agg #[.slice A0_0 l0_0.length c0_0, .slice (some ad1) l0_1.length c0_1], .int .i64 x, .int .i64 y, .bool true, .bool false, .agg #[.func (.func 69) #[] #[], .map (some b)], .pointer (some ⟨rb, 1, none⟩), .slice (some ad1) l0_1.length c0_1, .pointer (some ⟨rb, 1, none⟩), .slice (some ad1) l0_1.length c0_1, .int .i64 (l0_1.length : Int), .int .i64 (wrap64 ((l0_1.length : Int) - 1)), .pointer (some (ad1.add top.toNat)), .bool (rdOf false l0_1 top), v25, undef, undef, undef, undef, undef, undef, undef, undef, undef, undef, undef, undef, undef, undef, undef, undef, undef, undef, undef, undef, undef, undef, undef, undef, undef, undef, undef, undef, undef, undef, undef, undef, undef], defers := [] }) (by show Act.put _ (some 16) _ = _; simp only [Act.put, List.setIfInBounds_toArray, List.set_cons_zero, List.set_cons_succ]) ?_
      exact h_0_9_10 b v25 gb W2 HB2 hM (Nat.le_trans HB.size hbb) (Kd.R_below HR hb) (blk_below HG hb) Hg
  have h_0 : ∀ (b : Nat) (W : World), Go.RowKit.Below w.heap.size w W → MapOk mn b 0 W → w.heap.size ≤ b → wpAnyLast Try.prog .any (opsOf Try.f43 3) Q (fun w' : World => w'.cell? ⟨rb, 0, none⟩ = some (.slice A0_0 l0_0.length c0_0) ∧ w'.cell? ⟨rb, 1, none⟩ = some (.slice (some ad1) l0_1.length c0_1) ∧ w'.cell? (ad1.add top.toNat) = some (.bool (rdOf false l0_1 top))) [] 5 #[true, true, true, true, true, true, true, true, true, false, false, false, false, false] { tmps := #[.agg #[.slice A0_0 l0_0.length c0_0, .slice (some ad1) l0_1.length c0_1], .int .i64 x, .int .i64 y, .pointer (some ⟨rb, 0, none⟩), undef, undef, .string ⟨#[]⟩, .bool false, undef, undef, undef, .agg #[.slice A0_0 l0_0.length c0_0, .slice (some ad1) l0_1.length c0_1], .int .i64 x, .int .i64 y, .bool true, .bool false, .agg #[.func (.func 69) #[] #[], .map (some b)], .pointer (some ⟨rb, 1, none⟩), .slice (some ad1) l0_1.length c0_1, .pointer (some ⟨rb, 1, none⟩), .slice (some ad1) l0_1.length c0_1, .int .i64 (l0_1.length : Int), .int .i64 (wrap64 ((l0_1.length : Int) - 1)), .pointer (some (ad1.add top.toNat)), .bool (rdOf false l0_1 top), undef, undef, undef, undef, undef, undef, undef, undef, undef, undef, undef, undef, undef, undef, undef, undef, undef, undef, undef, undef, undef, undef, undef, undef, undef, undef, undef, undef, undef, undef, undef, undef, undef, undef], defers := [] } W := by
    intro b W HB HM Hb
    refine wpAnyLast_ready (rs := [9, 10]) (by kernel_rfl) (by simp) (AllReadyL.cons (i := 9) ltStart_op9 (by decide) (fun K hK => ?a9) (AllReadyL.cons (i := 10) ltStart_op10 (by decide) (fun K hK => ?a10) AllReadyL.nil))
    case a9 =>
      refine Kd.R_lit_step (Kd.int .u8) (w0 := W) W.heap.size 5 rfl (N := 25) rfl (xs := []) (inner := []) (ok := fun _ => True) (okp := fun _ => True) ?hr (Reps.none _ _) (fun _ h => h) trivial (Go.RowKit.Below.refl _ _) (Nat.le_refl _) (by simp) ?_
      case hr => first | (go_simp; done) | (go_simp; rfl)
      intro v25 W2 ho hb hg_ hn_
      have HB2 := below_then HB HB.size hb
      refine hK.out _ _ ⟨pw_cell_below HB2 h0, pw_cell_below HB2 h1, pw_cell_below HB2 h2⟩ (fun _ => ?_)
      refine norm_ (a' := { tmps := #[.agg #[.slice A0_0 l0_0.length c0_0, .slice (some ad1) l0_1.length c0_1], .int .i64 x, .int .i64 y, .pointer (some ⟨rb, 0, none⟩), undef, undef, .string ⟨#[]⟩, .bool false, undef, undef, undef, .agg #[.slice A0_0 l0_0.length c0_0, .slice (some ad1) l0_1.length c0_1], .int .i64 x, .int .i64 y, .bool true, .bool false, .agg #[.func (.func 69) #[] #[], .map (some b)], .pointer (some ⟨rb, 1, none⟩), .slice (some ad1) l0_1.length c0_1, .pointer (some ⟨rb, 1, none⟩), .slice (some ad1) l0_1.length c0_1, .int .i64 (l0_1.length : Int), .int .i64 (wrap64 ((l0_1.length : Int) - 1)), .pointer (some (ad1.add top.toNat)), .bool (rdOf false l0_1 top), v25, undef, undef, undef, undef, undef, undef, undef, undef, undef, undef, undef, undef, undef, undef, undef, undef, undef, undef, undef, undef, undef, undef, undef, undef, undef, undef, undef, undef, undef, undef, undef, undef, undef], defers := [] }) (by show Act.put _ (some 25) _ = _; simp only [Act.put, List.setIfInBounds_toArray, List.set_cons_zero, List.set_cons_succ]) ?_
      exact h_0_9 b v25 W2 HB2 (HM.same (hb.block b HM.lt)) Hb (Kd.R_lower ho HB.size)
    case a10 =>
      refine value_ (v := .pointer (some ⟨W.heap.size, 0, none⟩)) (w1 := W.alloc (.cells #[.nilFunc, .map none] 109)) rfl rfl ?_ ?_
      · go_simp
        first | done | rfl
      have hb := below_alloc (Go.RowKit.Below.refl W.heap.size W) (.cells #[.nilFunc, .map none] 109)
      have HB2 := below_then HB HB.size hb
      refine hK.out _ _ ⟨pw_cell_below HB2 h0, pw_cell_below HB2 h1, pw_cell_below HB2 h2⟩ (fun _ => ?_)
      refine norm_ (a' := { tmps := #[.agg #[.slice A0_0 l0_0.length c0_0, .slice (some ad1) l0_1.length c0_1], .int .i64 x, .int .i64 y, .pointer (some ⟨rb, 0, none⟩), undef, undef, .string ⟨#[]⟩, .bool false, .pointer (some ⟨W.heap.size, 0, none⟩), undef, undef, .agg #[.slice A0_0 l0_0.length c0_0, .slice (some ad1) l0_1.length c0_1], .int .i64 x, .int .i64 y, .bool true, .bool false, .agg #[.func (.func 69) #[] #[], .map (some b)], .pointer (some ⟨rb, 1, none⟩), .slice (some ad1) l0_1.length c0_1, .pointer (some ⟨rb, 1, none⟩), .slice (some ad1) l0_1.length c0_1, .int .i64 (l0_1.length : Int), .int .i64 (wrap64 ((l0_1.length : Int) - 1)), .pointer (some (ad1.add top.toNat)), .bool (rdOf false l0_1 top), undef, undef, undef, undef, undef, undef, undef, undef, undef, undef, undef, undef, undef, undef, undef, undef, undef, undef, undef, undef, undef, undef, undef, undef, undef, undef, undef, undef, undef, undef, undef, undef, undef, undef], defers := [] }) (by show Act.put _ (some 8) _ = _; simp only [Act.put, List.setIfInBounds_toArray, List.set_cons_zero, List.set_cons_succ]) ?_
      exact h_0_10 b W.heap.size (W.alloc (.cells #[.nilFunc, .map none] 109)) HB2 (HM.same (hb.block b HM.lt)) Hb (hw_new0 W (.cells #[.nilFunc, .map none] 109)) HB.size
  have h_9 : ∀ (v25 : Value) (W : World), Go.RowKit.Below w.heap.size w W → Kd.R (Kd.int .u8) 5 W w.heap.size (fun _ => True) v25 [] → wpAnyLast Try.prog .any (opsOf Try.f43 3) Q (fun w' : World => w'.cell? ⟨rb, 0, none⟩ = some (.slice A0_0 l0_0.length c0_0) ∧ w'.cell? ⟨rb, 1, none⟩ = some (.slice (some ad1) l0_1.length c0_1) ∧ w'.cell? (ad1.add top.toNat) = some (.bool (rdOf false l0_1 top))) [] 5 #[false, true, true, true, true, true, true, true, true, true, false, false, false, false] { tmps := #[.agg #[.slice A0_0 l0_0.length c0_0, .slice (some ad1) l0_1.length c0_1], .int .i64 x, .int .i64 y, .pointer (some ⟨rb, 0, none⟩), undef, undef, .string ⟨#[]⟩, .bool false, undef, undef, undef, .agg #[.slice A0_0 l0_0.length c0_0, .slice (some ad1) l0_1.length c0_1], .int .i64 x, .int .i64 y, .bool true, .bool false, undef, .pointer (some ⟨rb, 1, none⟩), .slice (some ad1) l0_1.length c0_1, .pointer (some ⟨rb, 1, none⟩), .slice (some ad1) l0_1.length c0_1, .int .i64 (l0_1.length : Int), .int .i64 (wrap64 ((l0_1.length : Int) - 1)), .pointer (some (ad1.add top.toNat)), .bool (rdOf false l0_1 top), v25, undef, undef, undef, undef, undef, undef, undef, undef, undef, undef, undef, undef, undef, undef, undef, undef, undef, undef, undef, undef, undef, undef, undef, undef, undef, undef, undef, undef, undef, undef, undef, undef, undef], defers := [] } W := by
    intro v25 W HB HR
    refine wpAnyLast_ready (rs := [0, 10]) (by kernel_rfl) (by simp) (AllReadyL.cons (i := 0) ltStart_op0 (by decide) (fun K hK => ?a0) (AllReadyL.cons (i := 10) ltStart_op10 (by decide) (fun K hK => ?a10) AllReadyL.nil))
    case a0 =>
      refine goes_ Try.func72 (by kernel_rfl) rfl #[.func (.func 69) #[] #[]] (by rfl) rfl rfl (by (try simp only [List.map_toArray, List.map_cons, List.map_nil]); first | done | rfl) ?_
      refine (ordersOf.calls 69 mn W).mono ?_
      rintro e W2 ⟨b, rfl, hbb, hM, hb⟩
      refine ⟨_, rfl, ?_⟩
      have HB2 := below_then HB HB.size hb
      refine hK.out _ _ ⟨pw_cell_below HB2 h0, pw_cell_below HB2 h1, pw_cell_below HB2 h2⟩ (fun _ => ?_)
      refine norm_ (a' := { tmps := #[.agg #[.slice A0_0 l0_0.length c0_0, .slice (some ad1) l0_1.length c0_1], .int .i64 x, .int .i64 y, .pointer (some ⟨rb, 0, none⟩), undef, undef, .string ⟨#[]⟩, .bool false, undef, undef, undef, .agg #[.slice A0_0 l0_0.length c0_0, .slice (some ad1) l0_1.length c0_1], .int .i64 x, .int .i64 y, .bool true, .bool false, .agg #[.func (.func 69) #[] #[], .map (some b)], .pointer (some ⟨rb, 1, none⟩), .slice (some ad1) l0_1.length c0_1, .pointer (some ⟨rb, 1, none⟩), .slice (some ad1) l0_1.length c0_1, .int .i64 (l0_1.length : Int), .int .i64 (wrap64 ((l0_1.length : Int) - 1)), .pointer (some (ad1.add top.toNat)), .bool (rdOf false l0_1 top), v25, undef, undef, undef, undef, undef, undef, undef, undef, undef, undef, undef, undef, undef, undef, undef, undef, undef, undef, undef, undef, undef, undef, undef, undef, undef, undef, undef, undef, undef, undef, undef, undef, undef], defers := [] }) (by show Act.put _ (some 16) _ = _; simp only [Act.put, List.setIfInBounds_toArray, List.set_cons_zero, List.set_cons_succ]) ?_
      exact h_0_9 b v25 W2 HB2 hM (Nat.le_trans HB.size hbb) (Kd.R_below HR hb)
    case a10 =>
      refine value_ (v := .pointer (some ⟨W.heap.size, 0, none⟩)) (w1 := W.alloc (.cells #[.nilFunc, .map none] 109)) rfl rfl ?_ ?_
      · go_simp
        first | done | rfl
      have hb := below_alloc (Go.RowKit.Below.refl W.heap.size W) (.cells #[.nilFunc, .map none] 109)
      have HB2 := below_then HB HB.size hb
      refine hK.out _ _ ⟨pw_cell_below HB2 h0, pw_cell_below HB2 h1, pw_cell_below HB2 h2⟩ (fun _ => ?_)
      refine norm_ (a' := { tmps := #[.agg #[.slice A0_0 l0_0.length c0_0, .slice (some ad1) l0_1.length c0_1], .int .i64 x, .int .i64 y, .pointer (some ⟨rb, 0, none⟩), undef, undef, .string ⟨#[]⟩, .bool false, .pointer (some ⟨W.heap.size, 0, none⟩), undef, undef, .agg #[.slice A0_0 l0_0.length c0_0, .slice (some ad1) l0_1.length c0_1], .int .i64 x, .int .i64 y, .bool true, .bool false, undef, .pointer (some ⟨rb, 1, none⟩), .slice (some ad1) l0_1.length c0_1, .pointer (some ⟨rb, 1, none⟩), .slice (some ad1) l0_1.length c0_1, .int .i64 (l0_1.length : Int), .int .i64 (wrap64 ((l0_1.length : Int) - 1)), .pointer (some (ad1.add top.toNat)), .bool (rdOf false l0_1 top), v25, undef, undef, undef, undef, undef, undef, undef, undef, undef, undef, undef, undef, undef, undef, undef, undef, undef, undef, undef, undef, undef, undef, undef, undef, undef, undef, undef, undef, undef, undef, undef, undef, undef], defers := [] }) (by show Act.put _ (some 8) _ = _; simp only [Act.put, List.setIfInBounds_toArray, List.set_cons_zero, List.set_cons_succ]) ?_
      exact h_9_10 v25 W.heap.size (W.alloc (.cells #[.nilFunc, .map none] 109)) HB2 (Kd.R_below HR hb) (hw_new0 W (.cells #[.nilFunc, .map none] 109)) HB.size
  have h_10 : ∀ (gb : Nat) (W : World), Go.RowKit.Below w.heap.size w W → W.heap[gb]? = some (.cells #[.nilFunc, .map none] 109 (0, 0)) → w.heap.size ≤ gb → wpAnyLast Try.prog .any (opsOf Try.f43 3) Q (fun w' : World => w'.cell? ⟨rb, 0, none⟩ = some (.slice A0_0 l0_0.length c0_0) ∧ w'.cell? ⟨rb, 1, none⟩ = some (.slice (some ad1) l0_1.length c0_1) ∧ w'.cell? (ad1.add top.toNat) = some (.bool (rdOf false l0_1 top))) [] 5 #[false, true, true, true, true, true, true, true, true, false, true, false, false, false] { tmps := #[.agg #[.slice A0_0 l0_0.length c0_0, .slice (some ad1) l0_1.length c0_1], .int .i64 x, .int .i64 y, .pointer (some ⟨rb, 0, none⟩), undef, undef, .string ⟨#[]⟩, .bool false, .pointer (some ⟨gb, 0, none⟩), undef, undef, .agg #[.slice A0_0 l0_0.length c0_0, .slice (some ad1) l0_1.length c0_1], .int .i64 x, .int .i64 y, .bool true, .bool false, undef, .pointer (some ⟨rb, 1, none⟩), .slice (some ad1) l0_1.length c0_1, .pointer (some ⟨rb, 1, none⟩), .slice (some ad1) l0_1.length c0_1, .int .i64 (l0_1.length : Int), .int .i64 (wrap64 ((l0_1.length : Int) - 1)), .pointer (some (ad1.add top.toNat)), .bool (rdOf false l0_1 top), undef, undef, undef, undef, undef, undef, undef, undef, undef, undef, undef, undef, undef, undef, undef, undef, undef, undef, undef, undef, undef, undef, undef, undef, undef, undef, undef, undef, undef, undef, undef, undef, undef, undef], defers := [] } W := by
    intro gb W HB HG Hg
    refine wpAnyLast_ready (rs := [0, 9]) (by kernel_rfl) (by simp) (AllReadyL.cons (i := 0) ltStart_op0 (by decide) (fun K hK => ?a0) (AllReadyL.cons (i := 9) ltStart_op9 (by decide) (fun K hK => ?a9) AllReadyL.nil))
    case a0 =>
      refine goes_ Try.func72 (by kernel_rfl) rfl #[.func (.func 69) #[] #[]] (by rfl) rfl rfl (by (try simp only [List.map_toArray, List.map_cons, List.map_nil]); first | done | rfl) ?_
      refine (ordersOf.calls 69 mn W).mono ?_
      rintro e W2 ⟨b, rfl, hbb, hM, hb⟩
      refine ⟨_, rfl, ?_⟩
      have HB2 := below_then HB HB.size hb
      refine hK.out _ _ ⟨pw_cell_below HB2 h0, pw_cell_below HB2 h1, pw_cell_below HB2 h2⟩ (fun _ => ?_)
      refine norm_ (a' := { tmps := #[.agg #[.slice A0_0 l0_0.length c0_0, .slice (some ad1) l0_1.length c0_1], .int .i64 x, .int .i64 y, .pointer (some ⟨rb, 0, none⟩), undef, undef, .string ⟨#[]⟩, .bool false, .pointer (some ⟨gb, 0, none⟩), undef, undef, .agg #[.slice A0_0 l0_0.length c0_0, .slice (some ad1) l0_1.length c0_1], .int .i64 x, .int .i64 y, .bool true, .bool false, .agg #[.func (.func 69) #[] #[], .map (some b)], .pointer (some ⟨rb, 1, none⟩), .slice (some ad1) l0_1.length c0_1, .pointer (some ⟨rb, 1, none⟩), .slice (some ad1) l0_1.length c0_1, .int .i64 (l0_1.length : Int), .int .i64 (wrap64 ((l0_1.length : Int) - 1)), .pointer (some (ad1.add top.toNat)), .bool (rdOf false l0_1 top), undef, undef, undef, undef, undef, undef, undef, undef, undef, undef, undef, undef, undef, undef, undef, undef, undef, undef, undef, undef, undef, undef, undef, undef, undef, undef, undef, undef, undef, undef, undef, undef, undef, undef], defers := [] }) (by show Act.put _ (some 16) _ = _; simp only [Act.put, List.setIfInBounds_toArray, List.set_cons_zero, List.set_cons_succ]) ?_
      exact h_0_10 b gb W2 HB2 hM (Nat.le_trans HB.size hbb) (blk_below HG hb) Hg
    case a9 =>
      refine Kd.R_lit_step (Kd.int .u8) (w0 := W) W.heap.size 5 rfl (N := 25) rfl (xs := []) (inner := []) (ok := fun _ => True) (okp := fun _ => True) ?hr (Reps.none _ _) (fun _ h => h) trivial (Go.RowKit.Below.refl _ _) (Nat.le_refl _) (by simp) ?_
      case hr => first | (go_simp; done) | (go_simp; rfl)
      intro v25 W2 ho hb hg_ hn_
      have HB2 := below_then HB HB.size hb
      refine hK.out _ _ ⟨pw_cell_below HB2 h0, pw_cell_below HB2 h1, pw_cell_below HB2 h2⟩ (fun _ => ?_)
      refine norm_ (a' := { tmps := #[.agg #[.slice A0_0 l0_0.length c0_0, .slice (some ad1) l0_1.length c0_1], .int .i64 x, .int .i64 y, .pointer (some ⟨rb, 0, none⟩), undef, undef, .string ⟨#[]⟩, .bool false, .pointer (some ⟨gb, 0, none⟩), undef, undef, .agg #[.slice A0_0 l0_0.length c0_0, .slice (some ad1) l0_1.length c0_1], .int .i64 x, .int .i64 y, .bool true, .bool false, undef, .pointer (some ⟨rb, 1, none⟩), .slice (some ad1) l0_1.length c0_1, .pointer (some ⟨rb, 1, none⟩), .slice (some ad1) l0_1.length c0_1, .int .i64 (l0_1.length : Int), .int .i64 (wrap64 ((l0_1.length : Int) - 1)), .pointer (some (ad1.add top.toNat)), .bool (rdOf false l0_1 top), v25, undef, undef, undef, undef, undef, undef, undef, undef, undef, undef, undef, undef, undef, undef, undef, undef, undef, undef, undef, undef, undef, undef, undef, undef, undef, undef, undef, undef, undef, undef, undef, undef, undef], defers := [] }) (by show Act.put _ (some 25) _ = _; simp only [Act.put, List.setIfInBounds_toArray, List.set_cons_zero, List.set_cons_succ]) ?_
      exact h_9_10 v25 gb W2 HB2 (Kd.R_lower ho HB.size) (blk_below HG hb) Hg
  refine wpAnyLast_ready (rs := [0, 9, 10]) (by kernel_rfl) (by simp) (AllReadyL.cons (i := 0) ltStart_op0 (by decide) (fun K hK => ?a0) (AllReadyL.cons (i := 9) ltStart_op9 (by decide) (fun K hK => ?a9) (AllReadyL.cons (i := 10) ltStart_op10 (by decide) (fun K hK => ?a10) AllReadyL.nil)))
  case a0 =>
    refine goes_ Try.func72 (by kernel_rfl) rfl #[.func (.func 69) #[] #[]] (by rfl) rfl rfl (by (try simp only [List.map_toArray, List.map_cons, List.map_nil]); first | done | rfl) ?_
    refine (ordersOf.calls 69 mn W).mono ?_
    rintro e W2 ⟨b, rfl, hbb, hM, hb⟩
    refine ⟨_, rfl, ?_⟩
    have HB2 := below_then HB HB.size hb
    refine hK.out _ _ ⟨pw_cell_below HB2 h0, pw_cell_below HB2 h1, pw_cell_below HB2 h2⟩ (fun _ => ?_)
    refine norm_ (a' := { tmps := #[.agg #[.slice A0_0 l0_0.length c0_0, .slice (some ad1) l0_1.length c0_1], .int .i64 x, .int .i64 y, .pointer (some ⟨rb, 0, none⟩), undef, undef, .string ⟨#[]⟩, .bool false, undef, undef, undef, .agg #[.slice A0_0 l0_0.length c0_0, .slice (some ad1) l0_1.length c0_1], .int .i64 x, .int .i64 y, .bool true, .bool false, .agg #[.func (.func 69) #[] #[], .map (some b)], .pointer (some ⟨rb, 1, none⟩), .slice (some ad1) l0_1.length c0_1, .pointer (some ⟨rb, 1, none⟩), .slice (some ad1) l0_1.length c0_1, .int .i64 (l0_1.length : Int), .int .i64 (wrap64 ((l0_1.length : Int) - 1)), .pointer (some (ad1.add top.toNat)), .bool (rdOf false l0_1 top), undef, undef, undef, undef, undef, undef, undef, undef, undef, undef, undef, undef, undef, undef, undef, undef, undef, undef, undef, undef, undef, undef, undef, undef, undef, undef, undef, undef, undef, undef, undef, undef, undef, undef], defers := [] }) (by show Act.put _ (some 16) _ = _; simp only [Act.put, List.setIfInBounds_toArray, List.set_cons_zero, List.set_cons_succ]) ?_
    exact h_0 b W2 HB2 hM (Nat.le_trans HB.size hbb)
  case a9 =>
    refine Kd.R_lit_step (Kd.int .u8) (w0 := W) W.heap.size 5 rfl (N := 25) rfl (xs := []) (inner := []) (ok := fun _ => True) (okp := fun _ => True) ?hr (Reps.none _ _) (fun _ h => h) trivial (Go.RowKit.Below.refl _ _) (Nat.le_refl _) (by simp) ?_
    case hr => first | (go_simp; done) | (go_simp; rfl)
    intro v25 W2 ho hb hg_ hn_
    have HB2 := below_then HB HB.size hb
    refine hK.out _ _ ⟨pw_cell_below HB2 h0, pw_cell_below HB2 h1, pw_cell_below HB2 h2⟩ (fun _ => ?_)
    refine norm_ (a' := { tmps := #[.agg #[.slice A0_0 l0_0.length c0_0, .slice (some ad1) l0_1.length c0_1], .int .i64 x, .int .i64 y, .pointer (some ⟨rb, 0, none⟩), undef, undef, .string ⟨#[]⟩, .bool false, undef, undef, undef, .agg #[.slice A0_0 l0_0.length c0_0, .slice (some ad1) l0_1.length c0_1], .int .i64 x, .int .i64 y, .bool true, .bool false, undef, .pointer (some ⟨rb, 1, none⟩), .slice (some ad1) l0_1.length c0_1, .pointer (some ⟨rb, 1, none⟩), .slice (some ad1) l0_1.length c0_1, .int .i64 (l0_1.length : Int), .int .i64 (wrap64 ((l0_1.length : Int) - 1)), .pointer (some (ad1.add top.toNat)), .bool (rdOf false l0_1 top), v25, undef, undef, undef, undef, undef, undef, undef, undef, undef, undef, undef, undef, undef, undef, undef, undef, undef, undef, undef, undef, undef, undef, undef, undef, undef, undef, undef, undef, undef, undef, undef, undef, undef], defers := [] }) (by show Act.put _ (some 25) _ = _; simp only [Act.put, List.setIfInBounds_toArray, List.set_cons_zero, List.set_cons_succ]) ?_
    exact h_9 v25 W2 HB2 (Kd.R_lower ho HB.size)
  case a10 =>
    refine value_ (v := .pointer (some ⟨W.heap.size, 0, none⟩)) (w1 := W.alloc (.cells #[.nilFunc, .map none] 109)) rfl rfl ?_ ?_
    · go_simp
      first | done | rfl
    have hb := below_alloc (Go.RowKit.Below.refl W.heap.size W) (.cells #[.nilFunc, .map none] 109)
    have HB2 := below_then HB HB.size hb
    refine hK.out _ _ ⟨pw_cell_below HB2 h0, pw_cell_below HB2 h1, pw_cell_below HB2 h2⟩ (fun _ => ?_)
    refine norm_ (a' := { tmps := #[.agg #[.slice A0_0 l0_0.length c0_0, .slice (some ad1) l0_1.length c0_1], .int .i64 x, .int .i64 y, .pointer (some ⟨rb, 0, none⟩), undef, undef, .string ⟨#[]⟩, .bool false, .pointer (some ⟨W.heap.size, 0, none⟩), undef, undef, .agg #[.slice A0_0 l0_0.length c0_0, .slice (some ad1) l0_1.length c0_1], .int .i64 x, .int .i64 y, .bool true, .bool false, undef, .pointer (some ⟨rb, 1, none⟩), .slice (some ad1) l0_1.length c0_1, .pointer (some ⟨rb, 1, none⟩), .slice (some ad1) l0_1.length c0_1, .int .i64 (l0_1.length : Int), .int .i64 (wrap64 ((l0_1.length : Int) - 1)), .pointer (some (ad1.add top.toNat)), .bool (rdOf false l0_1 top), undef, undef, undef, undef, undef, undef, undef, undef, undef, undef, undef, undef, undef, undef, undef, undef, undef, undef, undef, undef, undef, undef, undef, undef, undef, undef, undef, undef, undef, undef, undef, undef, undef, undef], defers := [] }) (by show Act.put _ (some 8) _ = _; simp only [Act.put, List.setIfInBounds_toArray, List.set_cons_zero, List.set_cons_succ]) ?_
    exact h_10 W.heap.size (W.alloc (.cells #[.nilFunc, .map none] 109)) HB2 (hw_new0 W (.cells #[.nilFunc, .map none] 109)) HB.size
theorem infoB : (Try.prog.info? 5).map (fun i => (i.zero, i.size, i.bytes)) = some (some (.int .u8 0), 1, 1) := by kernel_rfl
def ltS : Nat → Nat → Nat → Bool → List Int
  | 0, _, _, _ => []
  | m + 1, u, d, f => if 0 < d ∧ wrap64 (fl f + best mn u (d - 1) false) = best mn u d f then 100 :: ltS m u (d - 1) false else 117 :: ltS m (u - 1) d true
theorem R_nb {bet : Int → Int → Int} {b n base : Nat} {w : World} {v : Value} {xs : List Int} {ok : Nat → Prop} (h : Kd.R (Kd.int .u8) 5 w base ok v xs) (hM : MapOk bet b n w) : Kd.R (Kd.int .u8) 5 w base (fun k => k ≠ b) v xs := by
  have own := Kd.own_of_R (enc := Value.int .u8) (h1 := fun _ => rfl) h
  refine Kd.R_of_own (enc := Value.int .u8) (h1 := fun _ => rfl) own (fun k hk => ?_)
  obtain ⟨_, ⟨hv, h0⟩ | ⟨g, cap, cur, hv, hg, hh, _⟩⟩ := own
  · rw [hv] at hk
    simp [Value.ownBlock] at hk
  · rw [hv] at hk
    simp [Value.ownBlock] at hk
    subst hk
    exact fun e => hM.ne_cells hh e.symm
theorem conv_row {w : World} {base : Nat} {ok : Nat → Prop} {v : Value} {xs : List Int} (h : Kd.R (Kd.int .u8) 5 w base ok v xs) : (convert 111 9 v).run Try.prog w = .ok (.string (strOfNums xs)) w := by
  obtain ⟨_, ⟨hv, h0⟩ | ⟨g, cap, cur, hv, hg, hh, _⟩⟩ := Kd.own_of_R (enc := Value.int .u8) (h1 := fun _ => rfl) h
  · have : xs = [] := by simpa using h0
    subst this
    rw [hv]
    exact run_convert_bytes_nil w 111 5 Try.underlying111 Try.underlying5 _ _ 9 Try.underlying9
  · subst hv
    refine run_convert_bytes_arg w 111 5 Try.underlying111 Try.underlying5 g 0 _ cap xs rfl (fun i hi => ?_) 9 Try.underlying9
    have := (Kd.R_celln (enc := Value.int .u8) (h1 := fun _ => rfl) (0 : Int) h (i : Int) (by omega) (by omega)).1
    rw [Int.toNat_natCast] at this
    rw [Nat.zero_add]
    refine this.trans ?_
    simp [rdOf]
theorem lt5_op3 : (opsOf Try.f43 5)[3]? = some { dst := (some 35), op := (Op.load 109 (Operand.tmp 8)), type := 109, pos := "l8_lock.go:237", after := #[{ on := 2, ground := Ground.guard }], guard := (some (2, true)) } := by kernel_rfl
theorem lt5_op4 : (opsOf Try.f43 5)[4]? = some { dst := (some 36), op := (Op.move (Operand.tmp 1)), type := 3, pos := "l8_lock.go:237", after := #[{ on := 2, ground := Ground.guard }], guard := (some (2, true)) } := by kernel_rfl
theorem lt5_op5 : (opsOf Try.f43 5)[5]? = some { dst := (some 37), op := (Op.move (Operand.tmp 2)), type := 3, pos := "l8_lock.go:237", after := #[{ on := 2, ground := Ground.guard }], guard := (some (2, true)) } := by kernel_rfl
theorem lt5_op6 : (opsOf Try.f43 5)[6]? = some { dst := (some 38), op := (Op.move (Operand.tmp 9)), type := 4, pos := "l8_lock.go:237", after := #[{ on := 2, ground := Ground.guard }], guard := (some (2, true)) } := by kernel_rfl
theorem lt5_op7 : (opsOf Try.f43 5)[7]? = some { dst := (some 39), op := (Op.call { callee := (Callee.value (Operand.func 73)), args := #[(Operand.tmp 35), (Operand.tmp 36), (Operand.tmp 37), (Operand.tmp 38), (Operand.const (Value.bool false))], argTypes := #[109, 3, 3, 4, 4] }), type := 3, pos := "l8_lock.go:237", after := #[{ on := 3, ground := Ground.data }, { on := 4, ground := Ground.data }, { on := 5, ground := Ground.data }, { on := 6, ground := Ground.data }, { on := 2, ground := Ground.chain }, { on := 2, ground := Ground.guard }], guard := (some (2, true)) } := by kernel_rfl
theorem lt5_op8 : (opsOf Try.f43 5)[8]? = some { dst := (some 40), op := (Op.load 109 (Operand.tmp 8)), type := 109, pos := "l8_lock.go:237", after := #[{ on := 2, ground := Ground.guard }], guard := (some (2, true)) } := by kernel_rfl
theorem lt5_op9 : (opsOf Try.f43 5)[9]? = some { dst := (some 41), op := (Op.move (Operand.tmp 1)), type := 3, pos := "l8_lock.go:237", after := #[{ on := 2, ground := Ground.guard }], guard := (some (2, true)) } := by kernel_rfl
theorem lt5_op10 : (opsOf Try.f43 5)[10]? = some { dst := (some 42), op := (Op.move (Operand.tmp 2)), type := 3, pos := "l8_lock.go:237", after := #[{ on := 2, ground := Ground.guard }], guard := (some (2, true)) } := by kernel_rfl
theorem lt5_op11 : (opsOf Try.f43 5)[11]? = some { dst := (some 43), op := (Op.move (Operand.tmp 9)), type := 4, pos := "l8_lock.go:237", after := #[{ on := 2, ground := Ground.guard }], guard := (some (2, true)) } := by kernel_rfl
theorem lt5_op12 : (opsOf Try.f43 5)[12]? = some { dst := (some 44), op := (Op.call { callee := (Callee.value (Operand.func 74)), args := #[(Operand.tmp 40), (Operand.tmp 41), (Operand.tmp 42), (Operand.tmp 43)], argTypes := #[109, 3, 3, 4] }), type := 3, pos := "l8_lock.go:237", after := #[{ on := 8, ground := Ground.data }, { on := 9, ground := Ground.data }, { on := 10, ground := Ground.data }, { on := 11, ground := Ground.data }, { on := 7, ground := Ground.chain }, { on := 2, ground := Ground.guard }], guard := (some (2, true)) } := by kernel_rfl
theorem lt5_op13 : (opsOf Try.f43 5)[13]? = some { dst := (some 45), op := (Op.binOp BinOp.eql 3 (Operand.tmp 39) (Operand.tmp 44) 3), type := 4, pos := "l8_lock.go:237", after := #[{ on := 7, ground := Ground.data }, { on := 12, ground := Ground.data }, { on := 2, ground := Ground.guard }], guard := (some (2, true)) } := by kernel_rfl
theorem lt5_op14 : (opsOf Try.f43 5)[14]? = some { dst := (some 46), op := (Op.pick (Operand.tmp 34) (Operand.tmp 45) (Operand.const (Value.bool false))), type := 4, pos := "l8_lock.go:237", after := #[{ on := 2, ground := Ground.data }, { on := 13, ground := Ground.data }], guard := none } := by kernel_rfl
theorem cost_le {m : Nat} (h : m ≤ 20) : cost m ≤ 2097151 := by
  have h1 : ∀ k : Fin 21, cost k.val ≤ 2097151 := by decide
  exact h1 ⟨m, by omega⟩
set_option maxHeartbeats 8000000 in
set_option maxRecDepth 100000 in
theorem leastTraffic.raw (A0_0 : Option Addr) (c0_0 : Nat) (l0_0 : List Int) (ad1 : Addr) (c0_1 : Nat) (l0_1 : List Bool) (x y top : Int) (u0 d0 : Nat) (w : World) (hr0 : Kd.C (Kd.int .i64) w A0_0 l0_0.length l0_0) (hc0 : l0_0.length ≤ c0_0) (hr1 : Kd.C Kd.bool w (some ad1) l0_1.length l0_1) (hc1 : l0_1.length ≤ c0_1)
    (hx : x = (u0 : Int)) (hy : y = (d0 : Int)) (hu : u0 ≤ 10) (hd : d0 ≤ 10) (hT : impl_areShips.f l0_0 l0_1 x y = some true) (ht0 : 0 ≤ top) (ht2 : top < (l0_1.length : Int)) (hw : wrap64 ((l0_1.length : Int) - 1) = top) (hx1 : w.cell? (ad1.add top.toNat) = some (.bool (rdOf false l0_1 top))) :
    Calls Try.prog 43 #[.agg #[.slice A0_0 l0_0.length c0_0, .slice (some ad1) l0_1.length c0_1], .int .i64 x, .int .i64 y] w fun e w' => e = .returned (.tuple #[.string (strOfNums (ltS (u0 + d0) u0 d0 (rdOf false l0_1 top))), .bool true]) ∧ Below w.heap.size w w' := by
  have hu61 := Try.underlying61
  have hu109 := Try.underlying109
  have HA := Aside0.mk (below_alloc (Below.refl w.heap.size w) (.cells #[.slice A0_0 l0_0.length c0_0, .slice (some ad1) l0_1.length c0_1] 61))
  have BK := Aside0.mk (hw_new0 w (.cells #[.slice A0_0 l0_0.length c0_0, .slice (some ad1) l0_1.length c0_1] 61))
  have hT1 := Aside0.mk (fun (W : World) (hb : Below w.heap.size w W) => impl_areShips.calls _ c0_0 l0_0 _ c0_1 l0_1 x y true W (Kd.C_below hr0 hb) hc0 (Kd.C_below hr1 hb) hc1 hT)
  have q0 := eq_true ht0
  have q2 := eq_true ht2
  have HX1 := Aside0.mk hx1
  have HF := Aside0.mk (fills_all 69 mn (fun args w => enters_ Try.func69 rfl (by kernel_rfl) args w) (fun a c W => impl_least.calls a c (mn a c) W rfl))
  have HXY := Aside0.mk (And.intro hx (And.intro hy (And.intro hu hd)))
  clear hr0 hc0 hr1 hc1 hT ht0 ht2 hx1 hx hy hu hd
  go_enter Try.func43, Try.ntmps43
  go_wp2_with (go_at_call 71; refine (hT1.out _ HA.out).mono ?_; rintro e w1 ⟨rfl, hb⟩; have HB := Aside0.mk (below_drew (below_then HA.out HA.out.size hb)); have BL := Aside0.mk (blk_drew (blk_below BK.out hb)); clear hb)
  clear hT1
  refine start_ (n := 14) (S := (fun w' => w'.cell? ⟨w.heap.size, 0, none⟩ = some (.slice A0_0 l0_0.length c0_0) ∧ w'.cell? ⟨w.heap.size, 1, none⟩ = some (.slice (some ad1) l0_1.length c0_1) ∧ w'.cell? (ad1.add top.toNat) = some (.bool (rdOf false l0_1 top)))) (ds := []) #[false, false, false, false, false, false, false, false, false, false, false, false, false, false] (by kernel_rfl) rfl rfl ⟨(blk_cell BL.out 0).trans rfl, (blk_cell BL.out 1).trans rfl, pw_cell_below HB.out HX1.out⟩ (fun hHeld => ?_)
  refine pure_ (i := 1) (N := some 17) (v := ?_) (a' := ?_) #[false, true, false, false, false, false, false, false, false, false, false, false, false, false] rfl rfl (by kernel_rfl) (fun _ _ _ h => h) (Or.inl ⟨by rfl, ?_⟩) ?_ ?_
  rotate_left
  · intro w'
    go_simp
    with_reducible rfl
  rotate_left
  · simp only [Act.put, List.setIfInBounds_toArray, List.set_cons_zero, List.set_cons_succ, i64_w, i32_w]
    rfl
  refine take_ (i := 2) (N := some 18) (v := ?_) (a' := ?_) #[false, true, true, false, false, false, false, false, false, false, false, false, false, false] rfl rfl (by kernel_rfl) (fun _ _ _ h => h) (Or.inl ⟨by rfl, ?_⟩) hHeld ?_ ?_
  rotate_left
  · rintro w' ⟨s0, s1, s2⟩
    go_simp
    with_reducible rfl
  rotate_left
  · simp only [Act.put, List.setIfInBounds_toArray, List.set_cons_zero, List.set_cons_succ, i64_w, i32_w]
    rfl
  refine pure_ (i := 3) (N := some 19) (v := ?_) (a' := ?_) #[false, true, true, true, false, false, false, false, false, false, false, false, false, false] rfl rfl (by kernel_rfl) (fun _ _ _ h => h) (Or.inl ⟨by rfl, ?_⟩) ?_ ?_
  rotate_left
  · intro w'
    go_simp
    with_reducible rfl
  rotate_left
  · simp only [Act.put, List.setIfInBounds_toArray, List.set_cons_zero, List.set_cons_succ, i64_w, i32_w]
    rfl
  refine take_ (i := 4) (N := some 20) (v := ?_) (a' := ?_) #[false, true, true, true, true, false, false, false, false, false, false, false, false, false] rfl rfl (by kernel_rfl) (fun _ _ _ h => h) (Or.inl ⟨by rfl, ?_⟩) hHeld ?_ ?_
  rotate_left
  · rintro w' ⟨s0, s1, s2⟩
    go_simp
    with_reducible rfl
  rotate_left
  · simp only [Act.put, List.setIfInBounds_toArray, List.set_cons_zero, List.set_cons_succ, i64_w, i32_w]
    rfl
  refine pure_ (i := 5) (N := some 21) (v := ?_) (a' := ?_) #[false, true, true, true, true, true, false, false, false, false, false, false, false, false] rfl rfl (by kernel_rfl) (fun _ _ _ h => h) (Or.inl ⟨by rfl, ?_⟩) ?_ ?_
  rotate_left
  · intro w'
    go_simp
    with_reducible rfl
  rotate_left
  · simp only [Act.put, List.setIfInBounds_toArray, List.set_cons_zero, List.set_cons_succ, i64_w, i32_w]
    rfl
  refine pure_ (i := 6) (N := some 22) (v := ?_) (a' := ?_) #[false, true, true, true, true, true, true, false, false, false, false, false, false, false] rfl rfl (by kernel_rfl) (fun _ _ _ h => h) (Or.inl ⟨by rfl, ?_⟩) ?_ ?_
  rotate_left
  · intro w'
    go_simp
    with_reducible rfl
  rotate_left
  · simp only [Act.put, List.setIfInBounds_toArray, List.set_cons_zero, List.set_cons_succ, i64_w, i32_w]
    rfl
  refine pure_ (i := 7) (N := some 23) (v := ?_) (a' := ?_) #[false, true, true, true, true, true, true, true, false, false, false, false, false, false] rfl rfl (by kernel_rfl) (fun _ _ _ h => h) (Or.inl ⟨by rfl, ?_⟩) ?_ ?_
  rotate_left
  · intro w'
    go_simp
    with_reducible rfl
  rotate_left
  · simp only [Act.put, List.setIfInBounds_toArray, List.set_cons_zero, List.set_cons_succ, i64_w, i32_w]
    rfl
  refine take_ (i := 8) (N := some 24) (v := ?_) (a' := ?_) #[false, true, true, true, true, true, true, true, true, false, false, false, false, false] rfl rfl (by kernel_rfl) (fun _ _ _ h => h) (Or.inl ⟨by rfl, ?_⟩) hHeld ?_ ?_
  rotate_left
  · rintro w' ⟨s0, s1, s2⟩
    go_simp
    with_reducible rfl
  rotate_left
  · simp only [Act.put, List.setIfInBounds_toArray, List.set_cons_zero, List.set_cons_succ, i64_w, i32_w]
    rfl
  refine ltStart_region A0_0 c0_0 l0_0 ad1 c0_1 l0_1 x y top w.heap.size w1.drew _ ?hq ((blk_cell BL.out 0).trans rfl) ((blk_cell BL.out 1).trans rfl) (pw_cell_below HB.out HX1.out) ?hf _ (Below.refl _ _)
  case hq =>
    intro c a d v W h
    cases d <;> exact h
  intro b v25 gb W HB' HM Hb HR HG Hg
  refine pure_ (i := 13) (N := some 10) (v := v25) (a' := { tmps := #[.agg #[.slice A0_0 l0_0.length c0_0, .slice (some ad1) l0_1.length c0_1], .int .i64 x, .int .i64 y, .pointer (some ⟨w.heap.size, 0, none⟩), undef, undef, .string ⟨#[]⟩, .bool false, .pointer (some ⟨gb, 0, none⟩), .bool (rdOf false l0_1 top), v25, .agg #[.slice A0_0 l0_0.length c0_0, .slice (some ad1) l0_1.length c0_1], .int .i64 x, .int .i64 y, .bool true, .bool false, .agg #[.func (.func 69) #[] #[], .map (some b)], .pointer (some ⟨w.heap.size, 1, none⟩), .slice (some ad1) l0_1.length c0_1, .pointer (some ⟨w.heap.size, 1, none⟩), .slice (some ad1) l0_1.length c0_1, .int .i64 (l0_1.length : Int), .int .i64 (wrap64 ((l0_1.length : Int) - 1)), .pointer (some (ad1.add top.toNat)), .bool (rdOf false l0_1 top), v25, undef, undef, undef, undef, undef, undef, undef, undef, undef, undef, undef, undef, undef, undef, undef, undef, undef, undef, undef, undef, undef, undef, undef, undef, undef, undef, undef, undef, undef, undef, undef, undef, undef], defers := [] }) #[true, true, true, true, true, true, true, true, true, true, true, true, true, true] ltStart_op13 rfl (by kernel_rfl) (fun _ _ _ h => h) (Or.inl ⟨by rfl, ?_⟩) (by simp only [Act.put, List.setIfInBounds_toArray, List.set_cons_zero, List.set_cons_succ]) ?_
  · intro w'
    go_simp
    first | done | rfl
  refine done_ (by kernel_rfl) ?_
  have HBW := Aside0.mk (below_then HB.out HB.out.size HB')
  have Hwb : w.heap.size ≤ b := Nat.le_trans HB.out.size Hb
  have HWB := Aside0.mk Hwb
  have HR1 := Aside0.mk (R_nb (Kd.R_lower HR HB.out.size) HM)
  have HM1 := Aside0.mk HM
  have HG1 := Aside0.mk HG
  clear HB' HM Hb HR HG Hg hHeld HX1 BL HB Hwb
  go_wp2
  rw [hw]
  clear hw
  go_loopg [1, 2, 9, 10] 20 (fun gg s1 s2 s9 s10 wr => ∃ (p q : Int) (u d n : Nat) (f : Bool) (v : Value) (xs : List Int), s1 = .int .i64 p ∧ s2 = .int .i64 q ∧ s9 = .bool f ∧ s10 = v ∧ Aside0 (p = (u : Int) ∧ q = (d : Int) ∧ u ≤ 10 ∧ d ≤ 10) ∧ Aside0 (u + d ≤ gg) ∧ Aside0 (MapOk mn b n wr ∧ n + (u + d) * 4194304 ≤ 83886080) ∧ Aside0 (Kd.R (Kd.int .u8) 5 wr w.heap.size (fun k => k ≠ b) v xs) ∧ Aside0 (xs ++ ltS (u + d) u d f = ltS (u0 + d0) u0 d0 (rdOf false l0_1 top)) ∧ Aside0 (xs.length + (u + d) = u0 + d0) ∧ Aside0 (wr.heap[gb]? = some (.cells #[.func (.func 69) #[] #[], .map (some b)] 109 (0, 0))) ∧ Aside0 (Below w.heap.size w wr))
  case atStart => exact ⟨x, y, u0, d0, 0, (rdOf false l0_1 top), v25, [], rfl, rfl, rfl, rfl, HXY, ⟨by have := HXY.out.2.2; omega⟩, ⟨HM1.out, by have := HXY.out.2.2; omega⟩, HR1, ⟨rfl⟩, ⟨by simp⟩, HG1, HBW⟩
  case round =>
    have HZ := Aside0.mk HXY.out.2.2
    clear HBW HR1 HM1 HG1 HXY HA BK
    obtain ⟨p, q, u, d, n, f, v, xs, rfl, rfl, rfl, rfl, HP, HU, HM, HR, HS, HL, HG, HB⟩ := hrel
    have hp := HP.out
    by_cases hd : 0 < d
    · obtain ⟨d', rfl⟩ : ∃ d', d = d' + 1 := ⟨d - 1, by omega⟩
      have c2 : decide (0 < q) = true := decide_eq_true (by omega)
      by_cases hE : wrap64 (fl f + best mn u d' false) = best mn u (d' + 1) f
      · have e1 : decide (wrap64 (fl f + best mn u d' false) = best mn u (d' + 1) f) = true := decide_eq_true hE
        have e2 : (wrap64 (fl f + best mn u d' false) == best mn u (d' + 1) f) = true := beq_iff_eq.mpr hE
        have hS1 : ltS (u + (d' + 1)) u (d' + 1) f = 100 :: ltS (u + d') u d' false := by
          show (if 0 < d' + 1 ∧ _ then _ else _) = _
          exact if_pos ⟨by omega, hE⟩
        have HS1 := Aside0.mk hS1
        clear hE hS1 hd
        by_cases hu : 0 < u
        · have c1 : decide (0 < p) = true := decide_eq_true (by omega)
          clear hu hp
          go_wp2
          have hb0 := HG.out
          refine start_ (n := 15) (S := fun w' => w'.cell? ⟨gb, 0, none⟩ = some (.func (.func 69) #[] #[]) ∧ w'.cell? ⟨gb, 1, none⟩ = some (.map (some b))) (ds := []) #[false, false, false, false, false, false, false, false, false, false, false, false, false, false, false] (by kernel_rfl) rfl rfl ⟨(blk_cell (blk_drew HG.out) 0).trans rfl, (blk_cell (blk_drew HG.out) 1).trans rfl⟩ (fun hHeld => ?_)
          refine pure_ (i := 0) (N := some 32) (v := ?_) (a' := ?_) #[true, false, false, false, false, false, false, false, false, false, false, false, false, false, false] rfl rfl (by kernel_rfl) (fun _ _ _ h => h) (Or.inl ⟨by rfl, ?_⟩) ?_ ?_
          rotate_left
          · intro w'
            go_simp
            with_reducible rfl
          rotate_left
          · simp only [Act.put, List.setIfInBounds_toArray, List.set_cons_zero, List.set_cons_succ, i64_w, i32_w]
            rfl
          refine pure_ (i := 1) (N := some 33) (v := ?_) (a' := ?_) #[true, true, false, false, false, false, false, false, false, false, false, false, false, false, false] rfl rfl (by kernel_rfl) (fun _ _ _ h => h) (Or.inl ⟨by rfl, ?_⟩) ?_ ?_
          rotate_left
          · intro w'
            go_simp
            with_reducible rfl
          rotate_left
          · simp only [Act.put, List.setIfInBounds_toArray, List.set_cons_zero, List.set_cons_succ, i64_w, i32_w]
            rfl
          refine pure_ (i := 2) (N := some 34) (v := ?_) (a' := ?_) #[true, true, true, false, false, false, false, false, false, false, false, false, false, false, false] rfl rfl (by kernel_rfl) (fun _ _ _ h => h) (Or.inl ⟨by rfl, ?_⟩) ?_ ?_
          rotate_left
          · intro w'
            go_simp
            with_reducible rfl
          rotate_left
          · simp only [Act.put, List.setIfInBounds_toArray, List.set_cons_zero, List.set_cons_succ, i64_w, i32_w]
            rfl
          refine take_ (i := 3) (N := some 35) (v := ?_) (a' := ?_) #[true, true, true, true, false, false, false, false, false, false, false, false, false, false, false] rfl rfl (by kernel_rfl) (fun _ _ _ h => h) (Or.inl ⟨by rfl, ?_⟩) hHeld ?_ ?_
          rotate_left
          · rintro w' ⟨s0, s1⟩
            go_simp
            with_reducible rfl
          rotate_left
          · simp only [Act.put, List.setIfInBounds_toArray, List.set_cons_zero, List.set_cons_succ, i64_w, i32_w]
            rfl
          refine pure_ (i := 4) (N := some 36) (v := ?_) (a' := ?_) #[true, true, true, true, true, false, false, false, false, false, false, false, false, false, false] rfl rfl (by kernel_rfl) (fun _ _ _ h => h) (Or.inl ⟨by rfl, ?_⟩) ?_ ?_
          rotate_left
          · intro w'
            go_simp
            with_reducible rfl
          rotate_left
          · simp only [Act.put, List.setIfInBounds_toArray, List.set_cons_zero, List.set_cons_succ, i64_w, i32_w]
            rfl
          refine pure_ (i := 5) (N := some 37) (v := ?_) (a' := ?_) #[true, true, true, true, true, true, false, false, false, false, false, false, false, false, false] rfl rfl (by kernel_rfl) (fun _ _ _ h => h) (Or.inl ⟨by rfl, ?_⟩) ?_ ?_
          rotate_left
          · intro w'
            go_simp
            with_reducible rfl
          rotate_left
          · simp only [Act.put, List.setIfInBounds_toArray, List.set_cons_zero, List.set_cons_succ, i64_w, i32_w]
            rfl
          refine pure_ (i := 6) (N := some 38) (v := ?_) (a' := ?_) #[true, true, true, true, true, true, true, false, false, false, false, false, false, false, false] rfl rfl (by kernel_rfl) (fun _ _ _ h => h) (Or.inl ⟨by rfl, ?_⟩) ?_ ?_
          rotate_left
          · intro w'
            go_simp
            with_reducible rfl
          rotate_left
          · simp only [Act.put, List.setIfInBounds_toArray, List.set_cons_zero, List.set_cons_succ, i64_w, i32_w]
            rfl
          refine take_ (i := 8) (N := some 40) (v := ?_) (a' := ?_) #[true, true, true, true, true, true, true, false, true, false, false, false, false, false, false] rfl rfl (by kernel_rfl) (fun _ _ _ h => h) (Or.inl ⟨by rfl, ?_⟩) hHeld ?_ ?_
          rotate_left
          · rintro w' ⟨s0, s1⟩
            go_simp
            with_reducible rfl
          rotate_left
          · simp only [Act.put, List.setIfInBounds_toArray, List.set_cons_zero, List.set_cons_succ, i64_w, i32_w]
            rfl
          refine pure_ (i := 9) (N := some 41) (v := ?_) (a' := ?_) #[true, true, true, true, true, true, true, false, true, true, false, false, false, false, false] rfl rfl (by kernel_rfl) (fun _ _ _ h => h) (Or.inl ⟨by rfl, ?_⟩) ?_ ?_
          rotate_left
          · intro w'
            go_simp
            with_reducible rfl
          rotate_left
          · simp only [Act.put, List.setIfInBounds_toArray, List.set_cons_zero, List.set_cons_succ, i64_w, i32_w]
            rfl
          refine pure_ (i := 10) (N := some 42) (v := ?_) (a' := ?_) #[true, true, true, true, true, true, true, false, true, true, true, false, false, false, false] rfl rfl (by kernel_rfl) (fun _ _ _ h => h) (Or.inl ⟨by rfl, ?_⟩) ?_ ?_
          rotate_left
          · intro w'
            go_simp
            with_reducible rfl
          rotate_left
          · simp only [Act.put, List.setIfInBounds_toArray, List.set_cons_zero, List.set_cons_succ, i64_w, i32_w]
            rfl
          refine pure_ (i := 11) (N := some 43) (v := ?_) (a' := ?_) #[true, true, true, true, true, true, true, false, true, true, true, true, false, false, false] rfl rfl (by kernel_rfl) (fun _ _ _ h => h) (Or.inl ⟨by rfl, ?_⟩) ?_ ?_
          rotate_left
          · intro w'
            go_simp
            with_reducible rfl
          rotate_left
          · simp only [Act.put, List.setIfInBounds_toArray, List.set_cons_zero, List.set_cons_succ, i64_w, i32_w]
            rfl
          refine one_ (i := 7) (N := some 39) #[true, true, true, true, true, true, true, true, true, true, true, true, false, false, false] lt5_op7 rfl (by kernel_rfl) (by decide) (fun K hK => ?_)
          refine goes_ Try.func73 (by kernel_rfl) rfl #[.agg #[.func (.func 69) #[] #[], .map (some b)], .int .i64 p, .int .i64 q, .bool f, .bool false] (by rfl) rfl rfl (by (try simp only [List.map_toArray, List.map_cons, List.map_nil]); first | done | rfl) ?_
          refine (((behind_down.calls 69 mn (u + d') (HF.out _)) w p q u d' f b n wr.drew (by have := HP.out; simp only [Bool.false_eq_true, if_false]; omega) rfl (HM.out.1.same rfl) HWB.out (below_drew HB.out) (by have := HM.out.2; have := HP.out; have := cost_le (m := u + d') (by omega); have h_ : 83886080 + 2097151 < maxLen := (by decide); omega)).mono (fun e w' h => h)).mono ?_
          rintro e W1 ⟨h1_, hM1, hB1, hK1⟩
          have h1_ : e = .returned (.int .i64 (wrap64 (fl f + best mn u d' false))) := h1_
          subst h1_
          refine ⟨_, rfl, ?_⟩
          have hne := (HM.out.1.ne_cells HG.out).symm
          have G1 := blk_kept (blk_drew HG.out) hK1 hne
          refine hK.out _ _ ⟨(blk_cell G1 0).trans rfl, (blk_cell G1 1).trans rfl⟩ (fun hHeld => ?_)
          clear hK K
          refine norm_ (a' := { tmps := #[.agg #[.slice A0_0 l0_0.length c0_0, .slice (some ad1) l0_1.length c0_1], .int .i64 p, .int .i64 q, .pointer (some ⟨w.heap.size, 0, none⟩), undef, undef, .string ⟨#[]⟩, .bool false, .pointer (some ⟨gb, 0, none⟩), .bool f, u10, .agg #[.slice A0_0 l0_0.length c0_0, .slice (some ad1) l0_1.length c0_1], .int .i64 x, .int .i64 y, .bool true, .bool false, .agg #[.func (.func 69) #[] #[], .map (some b)], .pointer (some ⟨w.heap.size, 1, none⟩), .slice (some ad1) l0_1.length c0_1, .pointer (some ⟨w.heap.size, 1, none⟩), .slice (some ad1) l0_1.length c0_1, .int .i64 (l0_1.length : Int), .int .i64 top, .pointer (some (ad1.add top.toNat)), .bool (rdOf false l0_1 top), v25, .int .i64 p, .bool true, .bool true, undef, undef, .bool true, .int .i64 q, .bool true, .bool true, .agg #[.func (.func 69) #[] #[], .map (some b)], .int .i64 p, .int .i64 q, .bool f, .int .i64 (wrap64 (fl f + best mn u d' false)), .agg #[.func (.func 69) #[] #[], .map (some b)], .int .i64 p, .int .i64 q, .bool f, u44, u45, u46, u47, u48, u49, u50, u51, u52, u53, u54, u55, u56, undef, undef], defers := [] }) (by show Act.put _ (some 39) _ = _; simp only [Act.put, List.setIfInBounds_toArray, List.set_cons_zero, List.set_cons_succ]) ?_
          refine one_ (i := 12) (N := some 44) #[true, true, true, true, true, true, true, true, true, true, true, true, true, false, false] lt5_op12 rfl (by kernel_rfl) (by decide) (fun K hK => ?_)
          refine goes_ Try.func74 (by kernel_rfl) rfl #[.agg #[.func (.func 69) #[] #[], .map (some b)], .int .i64 p, .int .i64 q, .bool f] (by rfl) rfl rfl (by (try simp only [List.map_toArray, List.map_cons, List.map_nil]); first | done | rfl) ?_
          refine (HF.out (u + (d' + 1)) w p q u (d' + 1) f b _ W1 (by have := HP.out; omega) (by have := HP.out; omega) rfl (by have := HP.out; omega) (by have := HP.out; omega) hM1 HWB.out hB1 (by have := HM.out.2; have := HP.out; have := cost_le (m := u + d') (by omega); have := cost_le (m := u + (d' + 1)) (by omega); have h_ : 83886080 + 4194302 < maxLen := (by decide); omega)).mono ?_
          rintro e W2 ⟨rfl, hM2, hB2, hK2⟩
          refine ⟨_, rfl, ?_⟩
          have G2 := blk_kept G1 hK2 hne
          refine hK.out _ _ ⟨(blk_cell G2 0).trans rfl, (blk_cell G2 1).trans rfl⟩ (fun hHeld => ?_)
          clear hK K
          refine norm_ (a' := { tmps := #[.agg #[.slice A0_0 l0_0.length c0_0, .slice (some ad1) l0_1.length c0_1], .int .i64 p, .int .i64 q, .pointer (some ⟨w.heap.size, 0, none⟩), undef, undef, .string ⟨#[]⟩, .bool false, .pointer (some ⟨gb, 0, none⟩), .bool f, u10, .agg #[.slice A0_0 l0_0.length c0_0, .slice (some ad1) l0_1.length c0_1], .int .i64 x, .int .i64 y, .bool true, .bool false, .agg #[.func (.func 69) #[] #[], .map (some b)], .pointer (some ⟨w.heap.size, 1, none⟩), .slice (some ad1) l0_1.length c0_1, .pointer (some ⟨w.heap.size, 1, none⟩), .slice (some ad1) l0_1.length c0_1, .int .i64 (l0_1.length : Int), .int .i64 top, .pointer (some (ad1.add top.toNat)), .bool (rdOf false l0_1 top), v25, .int .i64 p, .bool true, .bool true, undef, undef, .bool true, .int .i64 q, .bool true, .bool true, .agg #[.func (.func 69) #[] #[], .map (some b)], .int .i64 p, .int .i64 q, .bool f, .int .i64 (wrap64 (fl f + best mn u d' false)), .agg #[.func (.func 69) #[] #[], .map (some b)], .int .i64 p, .int .i64 q, .bool f, .int .i64 (best mn u (d' + 1) f), u45, u46, u47, u48, u49, u50, u51, u52, u53, u54, u55, u56, undef, undef], defers := [] }) (by show Act.put _ (some 44) _ = _; simp only [Act.put, List.setIfInBounds_toArray, List.set_cons_zero, List.set_cons_succ]) ?_
          refine pure_ (i := 13) (N := some 45) (v := .bool true) (a' := { tmps := #[.agg #[.slice A0_0 l0_0.length c0_0, .slice (some ad1) l0_1.length c0_1], .int .i64 p, .int .i64 q, .pointer (some ⟨w.heap.size, 0, none⟩), undef, undef, .string ⟨#[]⟩, .bool false, .pointer (some ⟨gb, 0, none⟩), .bool f, u10, .agg #[.slice A0_0 l0_0.length c0_0, .slice (some ad1) l0_1.length c0_1], .int .i64 x, .int .i64 y, .bool true, .bool false, .agg #[.func (.func 69) #[] #[], .map (some b)], .pointer (some ⟨w.heap.size, 1, none⟩), .slice (some ad1) l0_1.length c0_1, .pointer (some ⟨w.heap.size, 1, none⟩), .slice (some ad1) l0_1.length c0_1, .int .i64 (l0_1.length : Int), .int .i64 top, .pointer (some (ad1.add top.toNat)), .bool (rdOf false l0_1 top), v25, .int .i64 p, .bool true, .bool true, undef, undef, .bool true, .int .i64 q, .bool true, .bool true, .agg #[.func (.func 69) #[] #[], .map (some b)], .int .i64 p, .int .i64 q, .bool f, .int .i64 (wrap64 (fl f + best mn u d' false)), .agg #[.func (.func 69) #[] #[], .map (some b)], .int .i64 p, .int .i64 q, .bool f, .int .i64 (best mn u (d' + 1) f), .bool true, u46, u47, u48, u49, u50, u51, u52, u53, u54, u55, u56, undef, undef], defers := [] }) #[true, true, true, true, true, true, true, true, true, true, true, true, true, true, false] lt5_op13 rfl (by kernel_rfl) (fun _ _ _ h => h) (Or.inl ⟨by rfl, ?_⟩) (by simp only [Act.put, List.setIfInBounds_toArray, List.set_cons_zero, List.set_cons_succ]) ?_
          · intro w'
            go_simp
            first | done | (simp only [i64_w]; done) | rfl
          refine pure_ (i := 14) (N := some 46) (v := .bool true) (a' := { tmps := #[.agg #[.slice A0_0 l0_0.length c0_0, .slice (some ad1) l0_1.length c0_1], .int .i64 p, .int .i64 q, .pointer (some ⟨w.heap.size, 0, none⟩), undef, undef, .string ⟨#[]⟩, .bool false, .pointer (some ⟨gb, 0, none⟩), .bool f, u10, .agg #[.slice A0_0 l0_0.length c0_0, .slice (some ad1) l0_1.length c0_1], .int .i64 x, .int .i64 y, .bool true, .bool false, .agg #[.func (.func 69) #[] #[], .map (some b)], .pointer (some ⟨w.heap.size, 1, none⟩), .slice (some ad1) l0_1.length c0_1, .pointer (some ⟨w.heap.size, 1, none⟩), .slice (some ad1) l0_1.length c0_1, .int .i64 (l0_1.length : Int), .int .i64 top, .pointer (some (ad1.add top.toNat)), .bool (rdOf false l0_1 top), v25, .int .i64 p, .bool true, .bool true, undef, undef, .bool true, .int .i64 q, .bool true, .bool true, .agg #[.func (.func 69) #[] #[], .map (some b)], .int .i64 p, .int .i64 q, .bool f, .int .i64 (wrap64 (fl f + best mn u d' false)), .agg #[.func (.func 69) #[] #[], .map (some b)], .int .i64 p, .int .i64 q, .bool f, .int .i64 (best mn u (d' + 1) f), .bool true, .bool true, u47, u48, u49, u50, u51, u52, u53, u54, u55, u56, undef, undef], defers := [] }) #[true, true, true, true, true, true, true, true, true, true, true, true, true, true, true] lt5_op14 rfl (by kernel_rfl) (fun _ _ _ h => h) (Or.inl ⟨by rfl, ?_⟩) (by simp only [Act.put, List.setIfInBounds_toArray, List.set_cons_zero, List.set_cons_succ]) ?_
          · intro w'
            go_simp
            first | done | (simp only [i64_w]; done) | rfl
          refine done_ (by kernel_rfl) ?_
          have HR2 := Aside0.mk (Kd.R_kept (Kd.R_kept (Kd.R_drew HR.out) hK1 (fun k hk e => hk e)) hK2 (fun k hk e => hk e))
          have HM2 := Aside0.mk (show MapOk mn b (n + 4194304) W2 from hM2.mono (by have := cost_le (m := u + d') (by have := HP.out; omega); have := cost_le (m := u + (d' + 1)) (by have := HP.out; omega); omega))
          have HB2 := Aside0.mk hB2
          have HG2 := Aside0.mk G2
          clear hM1 hB1 hK1 hM2 hB2 hK2 G1 G2 hne hHeld hb0
          go_wp2_with ((with_reducible refine gate_builtin (b := .append) (xs := #[.tmp 47, .tmp 48]) rfl ?_); at_builtin; refine Kd.R_append (Kd.int .u8) (w0 := w) w.heap.size rfl (.tmp 47) (.tmp 48) 111 5 (.int .u8 0) 1 rfl Try.underlying111 infoB rfl (by decide) (by omega) u10 xs 100 [.int .u8 100] (fun k => k ≠ b) (fun _ => False) rfl rfl rfl (fun _ hk => hk.elim) (fun k hk e => absurd HM2.out.lt (by omega)) HR2.out HB2.out HB2.out.size (by have := HL.out; have := HZ.out; omega) ?_; intro v1 w5 ho hb5 hg5 hat5; have HR5 := Aside0.mk ho; have HB5 := Aside0.mk hb5; have HM5 := Aside0.mk (HM2.out.same (hg5.block b HM2.out.lt (fun e => HR2.out.1 b e.symm rfl))); have HG5 := Aside0.mk (blk_grown HG2.out hg5 (Kd.R_ne HR2.out HG2.out (by decide))); clear ho hb5 hg5 hat5)
          go_roundg (u + d')
          case measure => have := HU.out; omega
          case rel =>
            exact ⟨p, wrap64 (q - 1), u, d', _, false, v1, xs ++ [100], rfl, rfl, rfl, rfl, ⟨by have := HP.out; unfold wrap64; omega⟩, ⟨Nat.le_refl _⟩, ⟨HM5.out, by have := HM.out.2; omega⟩, HR5, ⟨by have h1 := HS.out; rw [HS1.out] at h1; rw [List.append_assoc]; exact h1⟩, ⟨by have := HL.out; simp only [List.length_append, List.length_cons, List.length_nil]; omega⟩, HG5, HB5⟩
        · have c1 : decide (0 < p) = false := decide_eq_false (by omega)
          clear hu hp
          go_wp2
          have hb0 := HG.out
          refine start_ (n := 15) (S := fun w' => w'.cell? ⟨gb, 0, none⟩ = some (.func (.func 69) #[] #[]) ∧ w'.cell? ⟨gb, 1, none⟩ = some (.map (some b))) (ds := []) #[false, false, false, false, false, false, false, false, false, false, false, false, false, false, false] (by kernel_rfl) rfl rfl ⟨(blk_cell (blk_drew HG.out) 0).trans rfl, (blk_cell (blk_drew HG.out) 1).trans rfl⟩ (fun hHeld => ?_)
          refine pure_ (i := 0) (N := some 32) (v := ?_) (a' := ?_) #[true, false, false, false, false, false, false, false, false, false, false, false, false, false, false] rfl rfl (by kernel_rfl) (fun _ _ _ h => h) (Or.inl ⟨by rfl, ?_⟩) ?_ ?_
          rotate_left
          · intro w'
            go_simp
            with_reducible rfl
          rotate_left
          · simp only [Act.put, List.setIfInBounds_toArray, List.set_cons_zero, List.set_cons_succ, i64_w, i32_w]
            rfl
          refine pure_ (i := 1) (N := some 33) (v := ?_) (a' := ?_) #[true, true, false, false, false, false, false, false, false, false, false, false, false, false, false] rfl rfl (by kernel_rfl) (fun _ _ _ h => h) (Or.inl ⟨by rfl, ?_⟩) ?_ ?_
          rotate_left
          · intro w'
            go_simp
            with_reducible rfl
          rotate_left
          · simp only [Act.put, List.setIfInBounds_toArray, List.set_cons_zero, List.set_cons_succ, i64_w, i32_w]
            rfl
          refine pure_ (i := 2) (N := some 34) (v := ?_) (a' := ?_) #[true, true, true, false, false, false, false, false, false, false, false, false, false, false, false] rfl rfl (by kernel_rfl) (fun _ _ _ h => h) (Or.inl ⟨by rfl, ?_⟩) ?_ ?_
          rotate_left
          · intro w'
            go_simp
            with_reducible rfl
          rotate_left
          · simp only [Act.put, List.setIfInBounds_toArray, List.set_cons_zero, List.set_cons_succ, i64_w, i32_w]
            rfl
          refine take_ (i := 3) (N := some 35) (v := ?_) (a' := ?_) #[true, true, true, true, false, false, false, false, false, false, false, false, false, false, false] rfl rfl (by kernel_rfl) (fun _ _ _ h => h) (Or.inl ⟨by rfl, ?_⟩) hHeld ?_ ?_
          rotate_left
          · rintro w' ⟨s0, s1⟩
            go_simp
            with_reducible rfl
          rotate_left
          · simp only [Act.put, List.setIfInBounds_toArray, List.set_cons_zero, List.set_cons_succ, i64_w, i32_w]
            rfl
          refine pure_ (i := 4) (N := some 36) (v := ?_) (a' := ?_) #[true, true, true, true, true, false, false, false, false, false, false, false, false, false, false] rfl rfl (by kernel_rfl) (fun _ _ _ h => h) (Or.inl ⟨by rfl, ?_⟩) ?_ ?_
          rotate_left
          · intro w'
            go_simp
            with_reducible rfl
          rotate_left
          · simp only [Act.put, List.setIfInBounds_toArray, List.set_cons_zero, List.set_cons_succ, i64_w, i32_w]
            rfl
          refine pure_ (i := 5) (N := some 37) (v := ?_) (a' := ?_) #[true, true, true, true, true, true, false, false, false, false, false, false, false, false, false] rfl rfl (by kernel_rfl) (fun _ _ _ h => h) (Or.inl ⟨by rfl, ?_⟩) ?_ ?_
          rotate_left
          · intro w'
            go_simp
            with_reducible rfl
          rotate_left
          · simp only [Act.put, List.setIfInBounds_toArray, List.set_cons_zero, List.set_cons_succ, i64_w, i32_w]
            rfl
          refine pure_ (i := 6) (N := some 38) (v := ?_) (a' := ?_) #[true, true, true, true, true, true, true, false, false, false, false, false, false, false, false] rfl rfl (by kernel_rfl) (fun _ _ _ h => h) (Or.inl ⟨by rfl, ?_⟩) ?_ ?_
          rotate_left
          · intro w'
            go_simp
            with_reducible rfl
          rotate_left
          · simp only [Act.put, List.setIfInBounds_toArray, List.set_cons_zero, List.set_cons_succ, i64_w, i32_w]
            rfl
          refine take_ (i := 8) (N := some 40) (v := ?_) (a' := ?_) #[true, true, true, true, true, true, true, false, true, false, false, false, false, false, false] rfl rfl (by kernel_rfl) (fun _ _ _ h => h) (Or.inl ⟨by rfl, ?_⟩) hHeld ?_ ?_
          rotate_left
          · rintro w' ⟨s0, s1⟩
            go_simp
            with_reducible rfl
          rotate_left
          · simp only [Act.put, List.setIfInBounds_toArray, List.set_cons_zero, List.set_cons_succ, i64_w, i32_w]
            rfl
          refine pure_ (i := 9) (N := some 41) (v := ?_) (a' := ?_) #[true, true, true, true, true, true, true, false, true, true, false, false, false, false, false] rfl rfl (by kernel_rfl) (fun _ _ _ h => h) (Or.inl ⟨by rfl, ?_⟩) ?_ ?_
          rotate_left
          · intro w'
            go_simp
            with_reducible rfl
          rotate_left
          · simp only [Act.put, List.setIfInBounds_toArray, List.set_cons_zero, List.set_cons_succ, i64_w, i32_w]
            rfl
          refine pure_ (i := 10) (N := some 42) (v := ?_) (a' := ?_) #[true, true, true, true, true, true, true, false, true, true, true, false, false, false, false] rfl rfl (by kernel_rfl) (fun _ _ _ h => h) (Or.inl ⟨by rfl, ?_⟩) ?_ ?_
          rotate_left
          · intro w'
            go_simp
            with_reducible rfl
          rotate_left
          · simp only [Act.put, List.setIfInBounds_toArray, List.set_cons_zero, List.set_cons_succ, i64_w, i32_w]
            rfl
          refine pure_ (i := 11) (N := some 43) (v := ?_) (a' := ?_) #[true, true, true, true, true, true, true, false, true, true, true, true, false, false, false] rfl rfl (by kernel_rfl) (fun _ _ _ h => h) (Or.inl ⟨by rfl, ?_⟩) ?_ ?_
          rotate_left
          · intro w'
            go_simp
            with_reducible rfl
          rotate_left
          · simp only [Act.put, List.setIfInBounds_toArray, List.set_cons_zero, List.set_cons_succ, i64_w, i32_w]
            rfl
          refine one_ (i := 7) (N := some 39) #[true, true, true, true, true, true, true, true, true, true, true, true, false, false, false] lt5_op7 rfl (by kernel_rfl) (by decide) (fun K hK => ?_)
          refine goes_ Try.func73 (by kernel_rfl) rfl #[.agg #[.func (.func 69) #[] #[], .map (some b)], .int .i64 p, .int .i64 q, .bool f, .bool false] (by rfl) rfl rfl (by (try simp only [List.map_toArray, List.map_cons, List.map_nil]); first | done | rfl) ?_
          refine (((behind_down.calls 69 mn (u + d') (HF.out _)) w p q u d' f b n wr.drew (by have := HP.out; simp only [Bool.false_eq_true, if_false]; omega) rfl (HM.out.1.same rfl) HWB.out (below_drew HB.out) (by have := HM.out.2; have := HP.out; have := cost_le (m := u + d') (by omega); have h_ : 83886080 + 2097151 < maxLen := (by decide); omega)).mono (fun e w' h => h)).mono ?_
          rintro e W1 ⟨h1_, hM1, hB1, hK1⟩
          have h1_ : e = .returned (.int .i64 (wrap64 (fl f + best mn u d' false))) := h1_
          subst h1_
          refine ⟨_, rfl, ?_⟩
          have hne := (HM.out.1.ne_cells HG.out).symm
          have G1 := blk_kept (blk_drew HG.out) hK1 hne
          refine hK.out _ _ ⟨(blk_cell G1 0).trans rfl, (blk_cell G1 1).trans rfl⟩ (fun hHeld => ?_)
          clear hK K
          refine norm_ (a' := { tmps := #[.agg #[.slice A0_0 l0_0.length c0_0, .slice (some ad1) l0_1.length c0_1], .int .i64 p, .int .i64 q, .pointer (some ⟨w.heap.size, 0, none⟩), undef, undef, .string ⟨#[]⟩, .bool false, .pointer (some ⟨gb, 0, none⟩), .bool f, u10, .agg #[.slice A0_0 l0_0.length c0_0, .slice (some ad1) l0_1.length c0_1], .int .i64 x, .int .i64 y, .bool true, .bool false, .agg #[.func (.func 69) #[] #[], .map (some b)], .pointer (some ⟨w.heap.size, 1, none⟩), .slice (some ad1) l0_1.length c0_1, .pointer (some ⟨w.heap.size, 1, none⟩), .slice (some ad1) l0_1.length c0_1, .int .i64 (l0_1.length : Int), .int .i64 top, .pointer (some (ad1.add top.toNat)), .bool (rdOf false l0_1 top), v25, .int .i64 p, .bool false, .bool false, .int .i64 q, .bool true, .bool true, .int .i64 q, .bool true, .bool true, .agg #[.func (.func 69) #[] #[], .map (some b)], .int .i64 p, .int .i64 q, .bool f, .int .i64 (wrap64 (fl f + best mn u d' false)), .agg #[.func (.func 69) #[] #[], .map (some b)], .int .i64 p, .int .i64 q, .bool f, u44, u45, u46, u47, u48, u49, u50, u51, u52, u53, u54, u55, u56, undef, undef], defers := [] }) (by show Act.put _ (some 39) _ = _; simp only [Act.put, List.setIfInBounds_toArray, List.set_cons_zero, List.set_cons_succ]) ?_
          refine one_ (i := 12) (N := some 44) #[true, true, true, true, true, true, true, true, true, true, true, true, true, false, false] lt5_op12 rfl (by kernel_rfl) (by decide) (fun K hK => ?_)
          refine goes_ Try.func74 (by kernel_rfl) rfl #[.agg #[.func (.func 69) #[] #[], .map (some b)], .int .i64 p, .int .i64 q, .bool f] (by rfl) rfl rfl (by (try simp only [List.map_toArray, List.map_cons, List.map_nil]); first | done | rfl) ?_
          refine (HF.out (u + (d' + 1)) w p q u (d' + 1) f b _ W1 (by have := HP.out; omega) (by have := HP.out; omega) rfl (by have := HP.out; omega) (by have := HP.out; omega) hM1 HWB.out hB1 (by have := HM.out.2; have := HP.out; have := cost_le (m := u + d') (by omega); have := cost_le (m := u + (d' + 1)) (by omega); have h_ : 83886080 + 4194302 < maxLen := (by decide); omega)).mono ?_
          rintro e W2 ⟨rfl, hM2, hB2, hK2⟩
          refine ⟨_, rfl, ?_⟩
          have G2 := blk_kept G1 hK2 hne
          refine hK.out _ _ ⟨(blk_cell G2 0).trans rfl, (blk_cell G2 1).trans rfl⟩ (fun hHeld => ?_)
          clear hK K
          refine norm_ (a' := { tmps := #[.agg #[.slice A0_0 l0_0.length c0_0, .slice (some ad1) l0_1.length c0_1], .int .i64 p, .int .i64 q, .pointer (some ⟨w.heap.size, 0, none⟩), undef, undef, .string ⟨#[]⟩, .bool false, .pointer (some ⟨gb, 0, none⟩), .bool f, u10, .agg #[.slice A0_0 l0_0.length c0_0, .slice (some ad1) l0_1.length c0_1], .int .i64 x, .int .i64 y, .bool true, .bool false, .agg #[.func (.func 69) #[] #[], .map (some b)], .pointer (some ⟨w.heap.size, 1, none⟩), .slice (some ad1) l0_1.length c0_1, .pointer (some ⟨w.heap.size, 1, none⟩), .slice (some ad1) l0_1.length c0_1, .int .i64 (l0_1.length : Int), .int .i64 top, .pointer (some (ad1.add top.toNat)), .bool (rdOf false l0_1 top), v25, .int .i64 p, .bool false, .bool false, .int .i64 q, .bool true, .bool true, .int .i64 q, .bool true, .bool true, .agg #[.func (.func 69) #[] #[], .map (some b)], .int .i64 p, .int .i64 q, .bool f, .int .i64 (wrap64 (fl f + best mn u d' false)), .agg #[.func (.func 69) #[] #[], .map (some b)], .int .i64 p, .int .i64 q, .bool f, .int .i64 (best mn u (d' + 1) f), u45, u46, u47, u48, u49, u50, u51, u52, u53, u54, u55, u56, undef, undef], defers := [] }) (by show Act.put _ (some 44) _ = _; simp only [Act.put, List.setIfInBounds_toArray, List.set_cons_zero, List.set_cons_succ]) ?_
          refine pure_ (i := 13) (N := some 45) (v := .bool true) (a' := { tmps := #[.agg #[.slice A0_0 l0_0.length c0_0, .slice (some ad1) l0_1.length c0_1], .int .i64 p, .int .i64 q, .pointer (some ⟨w.heap.size, 0, none⟩), undef, undef, .string ⟨#[]⟩, .bool false, .pointer (some ⟨gb, 0, none⟩), .bool f, u10, .agg #[.slice A0_0 l0_0.length c0_0, .slice (some ad1) l0_1.length c0_1], .int .i64 x, .int .i64 y, .bool true, .bool false, .agg #[.func (.func 69) #[] #[], .map (some b)], .pointer (some ⟨w.heap.size, 1, none⟩), .slice (some ad1) l0_1.length c0_1, .pointer (some ⟨w.heap.size, 1, none⟩), .slice (some ad1) l0_1.length c0_1, .int .i64 (l0_1.length : Int), .int .i64 top, .pointer (some (ad1.add top.toNat)), .bool (rdOf false l0_1 top), v25, .int .i64 p, .bool false, .bool false, .int .i64 q, .bool true, .bool true, .int .i64 q, .bool true, .bool true, .agg #[.func (.func 69) #[] #[], .map (some b)], .int .i64 p, .int .i64 q, .bool f, .int .i64 (wrap64 (fl f + best mn u d' false)), .agg #[.func (.func 69) #[] #[], .map (some b)], .int .i64 p, .int .i64 q, .bool f, .int .i64 (best mn u (d' + 1) f), .bool true, u46, u47, u48, u49, u50, u51, u52, u53, u54, u55, u56, undef, undef], defers := [] }) #[true, true, true, true, true, true, true, true, true, true, true, true, true, true, false] lt5_op13 rfl (by kernel_rfl) (fun _ _ _ h => h) (Or.inl ⟨by rfl, ?_⟩) (by simp only [Act.put, List.setIfInBounds_toArray, List.set_cons_zero, List.set_cons_succ]) ?_
          · intro w'
            go_simp
            first | done | (simp only [i64_w]; done) | rfl
          refine pure_ (i := 14) (N := some 46) (v := .bool true) (a' := { tmps := #[.agg #[.slice A0_0 l0_0.length c0_0, .slice (some ad1) l0_1.length c0_1], .int .i64 p, .int .i64 q, .pointer (some ⟨w.heap.size, 0, none⟩), undef, undef, .string ⟨#[]⟩, .bool false, .pointer (some ⟨gb, 0, none⟩), .bool f, u10, .agg #[.slice A0_0 l0_0.length c0_0, .slice (some ad1) l0_1.length c0_1], .int .i64 x, .int .i64 y, .bool true, .bool false, .agg #[.func (.func 69) #[] #[], .map (some b)], .pointer (some ⟨w.heap.size, 1, none⟩), .slice (some ad1) l0_1.length c0_1, .pointer (some ⟨w.heap.size, 1, none⟩), .slice (some ad1) l0_1.length c0_1, .int .i64 (l0_1.length : Int), .int .i64 top, .pointer (some (ad1.add top.toNat)), .bool (rdOf false l0_1 top), v25, .int .i64 p, .bool false, .bool false, .int .i64 q, .bool true, .bool true, .int .i64 q, .bool true, .bool true, .agg #[.func (.func 69) #[] #[], .map (some b)], .int .i64 p, .int .i64 q, .bool f, .int .i64 (wrap64 (fl f + best mn u d' false)), .agg #[.func (.func 69) #[] #[], .map (some b)], .int .i64 p, .int .i64 q, .bool f, .int .i64 (best mn u (d' + 1) f), .bool true, .bool true, u47, u48, u49, u50, u51, u52, u53, u54, u55, u56, undef, undef], defers := [] }) #[true, true, true, true, true, true, true, true, true, true, true, true, true, true, true] lt5_op14 rfl (by kernel_rfl) (fun _ _ _ h => h) (Or.inl ⟨by rfl, ?_⟩) (by simp only [Act.put, List.setIfInBounds_toArray, List.set_cons_zero, List.set_cons_succ]) ?_
          · intro w'
            go_simp
            first | done | (simp only [i64_w]; done) | rfl
          refine done_ (by kernel_rfl) ?_
          have HR2 := Aside0.mk (Kd.R_kept (Kd.R_kept (Kd.R_drew HR.out) hK1 (fun k hk e => hk e)) hK2 (fun k hk e => hk e))
          have HM2 := Aside0.mk (show MapOk mn b (n + 4194304) W2 from hM2.mono (by have := cost_le (m := u + d') (by have := HP.out; omega); have := cost_le (m := u + (d' + 1)) (by have := HP.out; omega); omega))
          have HB2 := Aside0.mk hB2
          have HG2 := Aside0.mk G2
          clear hM1 hB1 hK1 hM2 hB2 hK2 G1 G2 hne hHeld hb0
          go_wp2_with ((with_reducible refine gate_builtin (b := .append) (xs := #[.tmp 47, .tmp 48]) rfl ?_); at_builtin; refine Kd.R_append (Kd.int .u8) (w0 := w) w.heap.size rfl (.tmp 47) (.tmp 48) 111 5 (.int .u8 0) 1 rfl Try.underlying111 infoB rfl (by decide) (by omega) u10 xs 100 [.int .u8 100] (fun k => k ≠ b) (fun _ => False) rfl rfl rfl (fun _ hk => hk.elim) (fun k hk e => absurd HM2.out.lt (by omega)) HR2.out HB2.out HB2.out.size (by have := HL.out; have := HZ.out; omega) ?_; intro v1 w5 ho hb5 hg5 hat5; have HR5 := Aside0.mk ho; have HB5 := Aside0.mk hb5; have HM5 := Aside0.mk (HM2.out.same (hg5.block b HM2.out.lt (fun e => HR2.out.1 b e.symm rfl))); have HG5 := Aside0.mk (blk_grown HG2.out hg5 (Kd.R_ne HR2.out HG2.out (by decide))); clear ho hb5 hg5 hat5)
          go_roundg (u + d')
          case measure => have := HU.out; omega
          case rel =>
            exact ⟨p, wrap64 (q - 1), u, d', _, false, v1, xs ++ [100], rfl, rfl, rfl, rfl, ⟨by have := HP.out; unfold wrap64; omega⟩, ⟨Nat.le_refl _⟩, ⟨HM5.out, by have := HM.out.2; omega⟩, HR5, ⟨by have h1 := HS.out; rw [HS1.out] at h1; rw [List.append_assoc]; exact h1⟩, ⟨by have := HL.out; simp only [List.length_append, List.length_cons, List.length_nil]; omega⟩, HG5, HB5⟩
      · have e1 : decide (wrap64 (fl f + best mn u d' false) = best mn u (d' + 1) f) = false := decide_eq_false hE
        have e2 : (wrap64 (fl f + best mn u d' false) == best mn u (d' + 1) f) = false := beq_eq_false_iff_ne.mpr hE
        have hu : 0 < u := by
          rcases Nat.eq_zero_or_pos u with h | h
          · subst h
            exact absurd (by rw [best]) hE
          · exact h
        have c1 : decide (0 < p) = true := decide_eq_true (by omega)
        obtain ⟨u', rfl⟩ : ∃ u', u = u' + 1 := ⟨u - 1, by omega⟩
        have hS1 : ltS (u' + 1 + (d' + 1)) (u' + 1) (d' + 1) f = 117 :: ltS (u' + (d' + 1)) u' (d' + 1) true := by
          rw [show u' + 1 + (d' + 1) = u' + (d' + 1) + 1 by omega]
          show (if 0 < d' + 1 ∧ _ then _ else _) = _
          exact if_neg (fun h => hE h.2)
        have HS1 := Aside0.mk hS1
        clear hE hS1 hd hu hp
        go_wp2
        have hb0 := HG.out
        refine start_ (n := 15) (S := fun w' => w'.cell? ⟨gb, 0, none⟩ = some (.func (.func 69) #[] #[]) ∧ w'.cell? ⟨gb, 1, none⟩ = some (.map (some b))) (ds := []) #[false, false, false, false, false, false, false, false, false, false, false, false, false, false, false] (by kernel_rfl) rfl rfl ⟨(blk_cell (blk_drew HG.out) 0).trans rfl, (blk_cell (blk_drew HG.out) 1).trans rfl⟩ (fun hHeld => ?_)
        refine pure_ (i := 0) (N := some 32) (v := ?_) (a' := ?_) #[true, false, false, false, false, false, false, false, false, false, false, false, false, false, false] rfl rfl (by kernel_rfl) (fun _ _ _ h => h) (Or.inl ⟨by rfl, ?_⟩) ?_ ?_
        rotate_left
        · intro w'
          go_simp
          with_reducible rfl
        rotate_left
        · simp only [Act.put, List.setIfInBounds_toArray, List.set_cons_zero, List.set_cons_succ, i64_w, i32_w]
          rfl
        refine pure_ (i := 1) (N := some 33) (v := ?_) (a' := ?_) #[true, true, false, false, false, false, false, false, false, false, false, false, false, false, false] rfl rfl (by kernel_rfl) (fun _ _ _ h => h) (Or.inl ⟨by rfl, ?_⟩) ?_ ?_
        rotate_left
        · intro w'
          go_simp
          with_reducible rfl
        rotate_left
        · simp only [Act.put, List.setIfInBounds_toArray, List.set_cons_zero, List.set_cons_succ, i64_w, i32_w]
          rfl
        refine pure_ (i := 2) (N := some 34) (v := ?_) (a' := ?_) #[true, true, true, false, false, false, false, false, false, false, false, false, false, false, false] rfl rfl (by kernel_rfl) (fun _ _ _ h => h) (Or.inl ⟨by rfl, ?_⟩) ?_ ?_
        rotate_left
        · intro w'
          go_simp
          with_reducible rfl
        rotate_left
        · simp only [Act.put, List.setIfInBounds_toArray, List.set_cons_zero, List.set_cons_succ, i64_w, i32_w]
          rfl
        refine take_ (i := 3) (N := some 35) (v := ?_) (a' := ?_) #[true, true, true, true, false, false, false, false, false, false, false, false, false, false, false] rfl rfl (by kernel_rfl) (fun _ _ _ h => h) (Or.inl ⟨by rfl, ?_⟩) hHeld ?_ ?_
        rotate_left
        · rintro w' ⟨s0, s1⟩
          go_simp
          with_reducible rfl
        rotate_left
        · simp only [Act.put, List.setIfInBounds_toArray, List.set_cons_zero, List.set_cons_succ, i64_w, i32_w]
          rfl
        refine pure_ (i := 4) (N := some 36) (v := ?_) (a' := ?_) #[true, true, true, true, true, false, false, false, false, false, false, false, false, false, false] rfl rfl (by kernel_rfl) (fun _ _ _ h => h) (Or.inl ⟨by rfl, ?_⟩) ?_ ?_
        rotate_left
        · intro w'
          go_simp
          with_reducible rfl
        rotate_left
        · simp only [Act.put, List.setIfInBounds_toArray, List.set_cons_zero, List.set_cons_succ, i64_w, i32_w]
          rfl
        refine pure_ (i := 5) (N := some 37) (v := ?_) (a' := ?_) #[true, true, true, true, true, true, false, false, false, false, false, false, false, false, false] rfl rfl (by kernel_rfl) (fun _ _ _ h => h) (Or.inl ⟨by rfl, ?_⟩) ?_ ?_
        rotate_left
        · intro w'
          go_simp
          with_reducible rfl
        rotate_left
        · simp only [Act.put, List.setIfInBounds_toArray, List.set_cons_zero, List.set_cons_succ, i64_w, i32_w]
          rfl
        refine pure_ (i := 6) (N := some 38) (v := ?_) (a' := ?_) #[true, true, true, true, true, true, true, false, false, false, false, false, false, false, false] rfl rfl (by kernel_rfl) (fun _ _ _ h => h) (Or.inl ⟨by rfl, ?_⟩) ?_ ?_
        rotate_left
        · intro w'
          go_simp
          with_reducible rfl
        rotate_left
        · simp only [Act.put, List.setIfInBounds_toArray, List.set_cons_zero, List.set_cons_succ, i64_w, i32_w]
          rfl
        refine take_ (i := 8) (N := some 40) (v := ?_) (a' := ?_) #[true, true, true, true, true, true, true, false, true, false, false, false, false, false, false] rfl rfl (by kernel_rfl) (fun _ _ _ h => h) (Or.inl ⟨by rfl, ?_⟩) hHeld ?_ ?_
        rotate_left
        · rintro w' ⟨s0, s1⟩
          go_simp
          with_reducible rfl
        rotate_left
        · simp only [Act.put, List.setIfInBounds_toArray, List.set_cons_zero, List.set_cons_succ, i64_w, i32_w]
          rfl
        refine pure_ (i := 9) (N := some 41) (v := ?_) (a' := ?_) #[true, true, true, true, true, true, true, false, true, true, false, false, false, false, false] rfl rfl (by kernel_rfl) (fun _ _ _ h => h) (Or.inl ⟨by rfl, ?_⟩) ?_ ?_
        rotate_left
        · intro w'
          go_simp
          with_reducible rfl
        rotate_left
        · simp only [Act.put, List.setIfInBounds_toArray, List.set_cons_zero, List.set_cons_succ, i64_w, i32_w]
          rfl
        refine pure_ (i := 10) (N := some 42) (v := ?_) (a' := ?_) #[true, true, true, true, true, true, true, false, true, true, true, false, false, false, false] rfl rfl (by kernel_rfl) (fun _ _ _ h => h) (Or.inl ⟨by rfl, ?_⟩) ?_ ?_
        rotate_left
        · intro w'
          go_simp
          with_reducible rfl
        rotate_left
        · simp only [Act.put, List.setIfInBounds_toArray, List.set_cons_zero, List.set_cons_succ, i64_w, i32_w]
          rfl
        refine pure_ (i := 11) (N := some 43) (v := ?_) (a' := ?_) #[true, true, true, true, true, true, true, false, true, true, true, true, false, false, false] rfl rfl (by kernel_rfl) (fun _ _ _ h => h) (Or.inl ⟨by rfl, ?_⟩) ?_ ?_
        rotate_left
        · intro w'
          go_simp
          with_reducible rfl
        rotate_left
        · simp only [Act.put, List.setIfInBounds_toArray, List.set_cons_zero, List.set_cons_succ, i64_w, i32_w]
          rfl
        refine one_ (i := 7) (N := some 39) #[true, true, true, true, true, true, true, true, true, true, true, true, false, false, false] lt5_op7 rfl (by kernel_rfl) (by decide) (fun K hK => ?_)
        refine goes_ Try.func73 (by kernel_rfl) rfl #[.agg #[.func (.func 69) #[] #[], .map (some b)], .int .i64 p, .int .i64 q, .bool f, .bool false] (by rfl) rfl rfl (by (try simp only [List.map_toArray, List.map_cons, List.map_nil]); first | done | rfl) ?_
        refine (((behind_down.calls 69 mn ((u' + 1) + d') (HF.out _)) w p q (u' + 1) d' f b n wr.drew (by have := HP.out; simp only [Bool.false_eq_true, if_false]; omega) rfl (HM.out.1.same rfl) HWB.out (below_drew HB.out) (by have := HM.out.2; have := HP.out; have := cost_le (m := (u' + 1) + d') (by omega); have h_ : 83886080 + 2097151 < maxLen := (by decide); omega)).mono (fun e w' h => h)).mono ?_
        rintro e W1 ⟨h1_, hM1, hB1, hK1⟩
        have h1_ : e = .returned (.int .i64 (wrap64 (fl f + best mn (u' + 1) d' false))) := h1_
        subst h1_
        refine ⟨_, rfl, ?_⟩
        have hne := (HM.out.1.ne_cells HG.out).symm
        have G1 := blk_kept (blk_drew HG.out) hK1 hne
        refine hK.out _ _ ⟨(blk_cell G1 0).trans rfl, (blk_cell G1 1).trans rfl⟩ (fun hHeld => ?_)
        clear hK K
        refine norm_ (a' := { tmps := #[.agg #[.slice A0_0 l0_0.length c0_0, .slice (some ad1) l0_1.length c0_1], .int .i64 p, .int .i64 q, .pointer (some ⟨w.heap.size, 0, none⟩), undef, undef, .string ⟨#[]⟩, .bool false, .pointer (some ⟨gb, 0, none⟩), .bool f, u10, .agg #[.slice A0_0 l0_0.length c0_0, .slice (some ad1) l0_1.length c0_1], .int .i64 x, .int .i64 y, .bool true, .bool false, .agg #[.func (.func 69) #[] #[], .map (some b)], .pointer (some ⟨w.heap.size, 1, none⟩), .slice (some ad1) l0_1.length c0_1, .pointer (some ⟨w.heap.size, 1, none⟩), .slice (some ad1) l0_1.length c0_1, .int .i64 (l0_1.length : Int), .int .i64 top, .pointer (some (ad1.add top.toNat)), .bool (rdOf false l0_1 top), v25, .int .i64 p, .bool true, .bool true, undef, undef, .bool true, .int .i64 q, .bool true, .bool true, .agg #[.func (.func 69) #[] #[], .map (some b)], .int .i64 p, .int .i64 q, .bool f, .int .i64 (wrap64 (fl f + best mn (u' + 1) d' false)), .agg #[.func (.func 69) #[] #[], .map (some b)], .int .i64 p, .int .i64 q, .bool f, u44, u45, u46, u47, u48, u49, u50, u51, u52, u53, u54, u55, u56, undef, undef], defers := [] }) (by show Act.put _ (some 39) _ = _; simp only [Act.put, List.setIfInBounds_toArray, List.set_cons_zero, List.set_cons_succ]) ?_
        refine one_ (i := 12) (N := some 44) #[true, true, true, true, true, true, true, true, true, true, true, true, true, false, false] lt5_op12 rfl (by kernel_rfl) (by decide) (fun K hK => ?_)
        refine goes_ Try.func74 (by kernel_rfl) rfl #[.agg #[.func (.func 69) #[] #[], .map (some b)], .int .i64 p, .int .i64 q, .bool f] (by rfl) rfl rfl (by (try simp only [List.map_toArray, List.map_cons, List.map_nil]); first | done | rfl) ?_
        refine (HF.out ((u' + 1) + (d' + 1)) w p q (u' + 1) (d' + 1) f b _ W1 (by have := HP.out; omega) (by have := HP.out; omega) rfl (by have := HP.out; omega) (by have := HP.out; omega) hM1 HWB.out hB1 (by have := HM.out.2; have := HP.out; have := cost_le (m := (u' + 1) + d') (by omega); have := cost_le (m := (u' + 1) + (d' + 1)) (by omega); have h_ : 83886080 + 4194302 < maxLen := (by decide); omega)).mono ?_
        rintro e W2 ⟨rfl, hM2, hB2, hK2⟩
        refine ⟨_, rfl, ?_⟩
        have G2 := blk_kept G1 hK2 hne
        refine hK.out _ _ ⟨(blk_cell G2 0).trans rfl, (blk_cell G2 1).trans rfl⟩ (fun hHeld => ?_)
        clear hK K
        refine norm_ (a' := { tmps := #[.agg #[.slice A0_0 l0_0.length c0_0, .slice (some ad1) l0_1.length c0_1], .int .i64 p, .int .i64 q, .pointer (some ⟨w.heap.size, 0, none⟩), undef, undef, .string ⟨#[]⟩, .bool false, .pointer (some ⟨gb, 0, none⟩), .bool f, u10, .agg #[.slice A0_0 l0_0.length c0_0, .slice (some ad1) l0_1.length c0_1], .int .i64 x, .int .i64 y, .bool true, .bool false, .agg #[.func (.func 69) #[] #[], .map (some b)], .pointer (some ⟨w.heap.size, 1, none⟩), .slice (some ad1) l0_1.length c0_1, .pointer (some ⟨w.heap.size, 1, none⟩), .slice (some ad1) l0_1.length c0_1, .int .i64 (l0_1.length : Int), .int .i64 top, .pointer (some (ad1.add top.toNat)), .bool (rdOf false l0_1 top), v25, .int .i64 p, .bool true, .bool true, undef, undef, .bool true, .int .i64 q, .bool true, .bool true, .agg #[.func (.func 69) #[] #[], .map (some b)], .int .i64 p, .int .i64 q, .bool f, .int .i64 (wrap64 (fl f + best mn (u' + 1) d' false)), .agg #[.func (.func 69) #[] #[], .map (some b)], .int .i64 p, .int .i64 q, .bool f, .int .i64 (best mn (u' + 1) (d' + 1) f), u45, u46, u47, u48, u49, u50, u51, u52, u53, u54, u55, u56, undef, undef], defers := [] }) (by show Act.put _ (some 44) _ = _; simp only [Act.put, List.setIfInBounds_toArray, List.set_cons_zero, List.set_cons_succ]) ?_
        refine pure_ (i := 13) (N := some 45) (v := .bool false) (a' := { tmps := #[.agg #[.slice A0_0 l0_0.length c0_0, .slice (some ad1) l0_1.length c0_1], .int .i64 p, .int .i64 q, .pointer (some ⟨w.heap.size, 0, none⟩), undef, undef, .string ⟨#[]⟩, .bool false, .pointer (some ⟨gb, 0, none⟩), .bool f, u10, .agg #[.slice A0_0 l0_0.length c0_0, .slice (some ad1) l0_1.length c0_1], .int .i64 x, .int .i64 y, .bool true, .bool false, .agg #[.func (.func 69) #[] #[], .map (some b)], .pointer (some ⟨w.heap.size, 1, none⟩), .slice (some ad1) l0_1.length c0_1, .pointer (some ⟨w.heap.size, 1, none⟩), .slice (some ad1) l0_1.length c0_1, .int .i64 (l0_1.length : Int), .int .i64 top, .pointer (some (ad1.add top.toNat)), .bool (rdOf false l0_1 top), v25, .int .i64 p, .bool true, .bool true, undef, undef, .bool true, .int .i64 q, .bool true, .bool true, .agg #[.func (.func 69) #[] #[], .map (some b)], .int .i64 p, .int .i64 q, .bool f, .int .i64 (wrap64 (fl f + best mn (u' + 1) d' false)), .agg #[.func (.func 69) #[] #[], .map (some b)], .int .i64 p, .int .i64 q, .bool f, .int .i64 (best mn (u' + 1) (d' + 1) f), .bool false, u46, u47, u48, u49, u50, u51, u52, u53, u54, u55, u56, undef, undef], defers := [] }) #[true, true, true, true, true, true, true, true, true, true, true, true, true, true, false] lt5_op13 rfl (by kernel_rfl) (fun _ _ _ h => h) (Or.inl ⟨by rfl, ?_⟩) (by simp only [Act.put, List.setIfInBounds_toArray, List.set_cons_zero, List.set_cons_succ]) ?_
        · intro w'
          go_simp
          first | done | (simp only [i64_w]; done) | rfl
        refine pure_ (i := 14) (N := some 46) (v := .bool false) (a' := { tmps := #[.agg #[.slice A0_0 l0_0.length c0_0, .slice (some ad1) l0_1.length c0_1], .int .i64 p, .int .i64 q, .pointer (some ⟨w.heap.size, 0, none⟩), undef, undef, .string ⟨#[]⟩, .bool false, .pointer (some ⟨gb, 0, none⟩), .bool f, u10, .agg #[.slice A0_0 l0_0.length c0_0, .slice (some ad1) l0_1.length c0_1], .int .i64 x, .int .i64 y, .bool true, .bool false, .agg #[.func (.func 69) #[] #[], .map (some b)], .pointer (some ⟨w.heap.size, 1, none⟩), .slice (some ad1) l0_1.length c0_1, .pointer (some ⟨w.heap.size, 1, none⟩), .slice (some ad1) l0_1.length c0_1, .int .i64 (l0_1.length : Int), .int .i64 top, .pointer (some (ad1.add top.toNat)), .bool (rdOf false l0_1 top), v25, .int .i64 p, .bool true, .bool true, undef, undef, .bool true, .int .i64 q, .bool true, .bool true, .agg #[.func (.func 69) #[] #[], .map (some b)], .int .i64 p, .int .i64 q, .bool f, .int .i64 (wrap64 (fl f + best mn (u' + 1) d' false)), .agg #[.func (.func 69) #[] #[], .map (some b)], .int .i64 p, .int .i64 q, .bool f, .int .i64 (best mn (u' + 1) (d' + 1) f), .bool false, .bool false, u47, u48, u49, u50, u51, u52, u53, u54, u55, u56, undef, undef], defers := [] }) #[true, true, true, true, true, true, true, true, true, true, true, true, true, true, true] lt5_op14 rfl (by kernel_rfl) (fun _ _ _ h => h) (Or.inl ⟨by rfl, ?_⟩) (by simp only [Act.put, List.setIfInBounds_toArray, List.set_cons_zero, List.set_cons_succ]) ?_
        · intro w'
          go_simp
          first | done | (simp only [i64_w]; done) | rfl
        refine done_ (by kernel_rfl) ?_
        have HR2 := Aside0.mk (Kd.R_kept (Kd.R_kept (Kd.R_drew HR.out) hK1 (fun k hk e => hk e)) hK2 (fun k hk e => hk e))
        have HM2 := Aside0.mk (show MapOk mn b (n + 4194304) W2 from hM2.mono (by have := cost_le (m := (u' + 1) + d') (by have := HP.out; omega); have := cost_le (m := (u' + 1) + (d' + 1)) (by have := HP.out; omega); omega))
        have HB2 := Aside0.mk hB2
        have HG2 := Aside0.mk G2
        clear hM1 hB1 hK1 hM2 hB2 hK2 G1 G2 hne hHeld hb0
        go_wp2_with ((with_reducible refine gate_builtin (b := .append) (xs := #[.tmp 52, .tmp 53]) rfl ?_); at_builtin; refine Kd.R_append (Kd.int .u8) (w0 := w) w.heap.size rfl (.tmp 52) (.tmp 53) 111 5 (.int .u8 0) 1 rfl Try.underlying111 infoB rfl (by decide) (by omega) u10 xs 117 [.int .u8 117] (fun k => k ≠ b) (fun _ => False) rfl rfl rfl (fun _ hk => hk.elim) (fun k hk e => absurd HM2.out.lt (by omega)) HR2.out HB2.out HB2.out.size (by have := HL.out; have := HZ.out; omega) ?_; intro v1 w5 ho hb5 hg5 hat5; have HR5 := Aside0.mk ho; have HB5 := Aside0.mk hb5; have HM5 := Aside0.mk (HM2.out.same (hg5.block b HM2.out.lt (fun e => HR2.out.1 b e.symm rfl))); have HG5 := Aside0.mk (blk_grown HG2.out hg5 (Kd.R_ne HR2.out HG2.out (by decide))); clear ho hb5 hg5 hat5)
        go_roundg (u' + (d' + 1))
        case measure => have := HU.out; omega
        case rel =>
          exact ⟨wrap64 (p - 1), q, u', (d' + 1), _, true, v1, xs ++ [117], rfl, rfl, rfl, rfl, ⟨by have := HP.out; unfold wrap64; omega⟩, ⟨Nat.le_refl _⟩, ⟨HM5.out, by have := HM.out.2; omega⟩, HR5, ⟨by have h1 := HS.out; rw [HS1.out] at h1; rw [List.append_assoc]; exact h1⟩, ⟨by have := HL.out; simp only [List.length_append, List.length_cons, List.length_nil]; omega⟩, HG5, HB5⟩
    · obtain rfl : d = 0 := by omega
      have c2 : decide (0 < q) = false := decide_eq_false (by omega)
      by_cases hu : 0 < u
      · have c1 : decide (0 < p) = true := decide_eq_true (by omega)
        obtain ⟨u', rfl⟩ : ∃ u', u = u' + 1 := ⟨u - 1, by omega⟩
        have hS1 : ltS (u' + 1 + 0) (u' + 1) 0 f = 117 :: ltS (u' + 0) u' 0 true := by
          show (if 0 < 0 ∧ _ then _ else _) = _
          exact if_neg (fun h => absurd h.1 (by omega))
        have HS1 := Aside0.mk hS1
        clear hS1 hd hu hp
        go_wp2
        have hb0 := HG.out
        refine start_ (n := 15) (S := fun w' => w'.cell? ⟨gb, 0, none⟩ = some (.func (.func 69) #[] #[]) ∧ w'.cell? ⟨gb, 1, none⟩ = some (.map (some b))) (ds := []) #[false, false, false, false, false, false, false, false, false, false, false, false, false, false, false] (by kernel_rfl) rfl rfl ⟨(blk_cell (blk_drew HG.out) 0).trans rfl, (blk_cell (blk_drew HG.out) 1).trans rfl⟩ (fun hHeld => ?_)
        refine pure_ (i := 0) (N := some 32) (v := ?_) (a' := ?_) #[true, false, false, false, false, false, false, false, false, false, false, false, false, false, false] rfl rfl (by kernel_rfl) (fun _ _ _ h => h) (Or.inl ⟨by rfl, ?_⟩) ?_ ?_
        rotate_left
        · intro w'
          go_simp
          with_reducible rfl
        rotate_left
        · simp only [Act.put, List.setIfInBounds_toArray, List.set_cons_zero, List.set_cons_succ, i64_w, i32_w]
          rfl
        refine pure_ (i := 1) (N := some 33) (v := ?_) (a' := ?_) #[true, true, false, false, false, false, false, false, false, false, false, false, false, false, false] rfl rfl (by kernel_rfl) (fun _ _ _ h => h) (Or.inl ⟨by rfl, ?_⟩) ?_ ?_
        rotate_left
        · intro w'
          go_simp
          with_reducible rfl
        rotate_left
        · simp only [Act.put, List.setIfInBounds_toArray, List.set_cons_zero, List.set_cons_succ, i64_w, i32_w]
          rfl
        refine pure_ (i := 2) (N := some 34) (v := ?_) (a' := ?_) #[true, true, true, false, false, false, false, false, false, false, false, false, false, false, false] rfl rfl (by kernel_rfl) (fun _ _ _ h => h) (Or.inl ⟨by rfl, ?_⟩) ?_ ?_
        rotate_left
        · intro w'
          go_simp
          with_reducible rfl
        rotate_left
        · simp only [Act.put, List.setIfInBounds_toArray, List.set_cons_zero, List.set_cons_succ, i64_w, i32_w]
          rfl
        refine pure_ (i := 3) (N := some 35) (v := undef) (a' := { tmps := #[.agg #[.slice A0_0 l0_0.length c0_0, .slice (some ad1) l0_1.length c0_1], .int .i64 p, .int .i64 q, .pointer (some ⟨w.heap.size, 0, none⟩), undef, undef, .string ⟨#[]⟩, .bool false, .pointer (some ⟨gb, 0, none⟩), .bool f, u10, .agg #[.slice A0_0 l0_0.length c0_0, .slice (some ad1) l0_1.length c0_1], .int .i64 x, .int .i64 y, .bool true, .bool false, .agg #[.func (.func 69) #[] #[], .map (some b)], .pointer (some ⟨w.heap.size, 1, none⟩), .slice (some ad1) l0_1.length c0_1, .pointer (some ⟨w.heap.size, 1, none⟩), .slice (some ad1) l0_1.length c0_1, .int .i64 (l0_1.length : Int), .int .i64 top, .pointer (some (ad1.add top.toNat)), .bool (rdOf false l0_1 top), v25, .int .i64 p, .bool true, .bool true, undef, undef, .bool true, .int .i64 q, .bool false, .bool false, undef, u36, u37, u38, u39, u40, u41, u42, u43, u44, u45, u46, u47, u48, u49, u50, u51, u52, u53, u54, u55, u56, undef, undef], defers := [] }) #[true, true, true, true, false, false, false, false, false, false, false, false, false, false, false] lt5_op3 rfl (by kernel_rfl) (fun _ _ _ h => h) (Or.inr ⟨by rfl, rfl⟩) (by simp only [Act.put, List.setIfInBounds_toArray, List.set_cons_zero, List.set_cons_succ]) ?_
        refine pure_ (i := 4) (N := some 36) (v := undef) (a' := { tmps := #[.agg #[.slice A0_0 l0_0.length c0_0, .slice (some ad1) l0_1.length c0_1], .int .i64 p, .int .i64 q, .pointer (some ⟨w.heap.size, 0, none⟩), undef, undef, .string ⟨#[]⟩, .bool false, .pointer (some ⟨gb, 0, none⟩), .bool f, u10, .agg #[.slice A0_0 l0_0.length c0_0, .slice (some ad1) l0_1.length c0_1], .int .i64 x, .int .i64 y, .bool true, .bool false, .agg #[.func (.func 69) #[] #[], .map (some b)], .pointer (some ⟨w.heap.size, 1, none⟩), .slice (some ad1) l0_1.length c0_1, .pointer (some ⟨w.heap.size, 1, none⟩), .slice (some ad1) l0_1.length c0_1, .int .i64 (l0_1.length : Int), .int .i64 top, .pointer (some (ad1.add top.toNat)), .bool (rdOf false l0_1 top), v25, .int .i64 p, .bool true, .bool true, undef, undef, .bool true, .int .i64 q, .bool false, .bool false, undef, undef, u37, u38, u39, u40, u41, u42, u43, u44, u45, u46, u47, u48, u49, u50, u51, u52, u53, u54, u55, u56, undef, undef], defers := [] }) #[true, true, true, true, true, false, false, false, false, false, false, false, false, false, false] lt5_op4 rfl (by kernel_rfl) (fun _ _ _ h => h) (Or.inr ⟨by rfl, rfl⟩) (by simp only [Act.put, List.setIfInBounds_toArray, List.set_cons_zero, List.set_cons_succ]) ?_
        refine pure_ (i := 5) (N := some 37) (v := undef) (a' := { tmps := #[.agg #[.slice A0_0 l0_0.length c0_0, .slice (some ad1) l0_1.length c0_1], .int .i64 p, .int .i64 q, .pointer (some ⟨w.heap.size, 0, none⟩), undef, undef, .string ⟨#[]⟩, .bool false, .pointer (some ⟨gb, 0, none⟩), .bool f, u10, .agg #[.slice A0_0 l0_0.length c0_0, .slice (some ad1) l0_1.length c0_1], .int .i64 x, .int .i64 y, .bool true, .bool false, .agg #[.func (.func 69) #[] #[], .map (some b)], .pointer (some ⟨w.heap.size, 1, none⟩), .slice (some ad1) l0_1.length c0_1, .pointer (some ⟨w.heap.size, 1, none⟩), .slice (some ad1) l0_1.length c0_1, .int .i64 (l0_1.length : Int), .int .i64 top, .pointer (some (ad1.add top.toNat)), .bool (rdOf false l0_1 top), v25, .int .i64 p, .bool true, .bool true, undef, undef, .bool true, .int .i64 q, .bool false, .bool false, undef, undef, undef, u38, u39, u40, u41, u42, u43, u44, u45, u46, u47, u48, u49, u50, u51, u52, u53, u54, u55, u56, undef, undef], defers := [] }) #[true, true, true, true, true, true, false, false, false, false, false, false, false, false, false] lt5_op5 rfl (by kernel_rfl) (fun _ _ _ h => h) (Or.inr ⟨by rfl, rfl⟩) (by simp only [Act.put, List.setIfInBounds_toArray, List.set_cons_zero, List.set_cons_succ]) ?_
        refine pure_ (i := 6) (N := some 38) (v := undef) (a' := { tmps := #[.agg #[.slice A0_0 l0_0.length c0_0, .slice (some ad1) l0_1.length c0_1], .int .i64 p, .int .i64 q, .pointer (some ⟨w.heap.size, 0, none⟩), undef, undef, .string ⟨#[]⟩, .bool false, .pointer (some ⟨gb, 0, none⟩), .bool f, u10, .agg #[.slice A0_0 l0_0.length c0_0, .slice (some ad1) l0_1.length c0_1], .int .i64 x, .int .i64 y, .bool true, .bool false, .agg #[.func (.func 69) #[] #[], .map (some b)], .pointer (some ⟨w.heap.size, 1, none⟩), .slice (some ad1) l0_1.length c0_1, .pointer (some ⟨w.heap.size, 1, none⟩), .slice (some ad1) l0_1.length c0_1, .int .i64 (l0_1.length : Int), .int .i64 top, .pointer (some (ad1.add top.toNat)), .bool (rdOf false l0_1 top), v25, .int .i64 p, .bool true, .bool true, undef, undef, .bool true, .int .i64 q, .bool false, .bool false, undef, undef, undef, undef, u39, u40, u41, u42, u43, u44, u45, u46, u47, u48, u49, u50, u51, u52, u53, u54, u55, u56, undef, undef], defers := [] }) #[true, true, true, true, true, true, true, false, false, false, false, false, false, false, false] lt5_op6 rfl (by kernel_rfl) (fun _ _ _ h => h) (Or.inr ⟨by rfl, rfl⟩) (by simp only [Act.put, List.setIfInBounds_toArray, List.set_cons_zero, List.set_cons_succ]) ?_
        refine pure_ (i := 7) (N := some 39) (v := undef) (a' := { tmps := #[.agg #[.slice A0_0 l0_0.length c0_0, .slice (some ad1) l0_1.length c0_1], .int .i64 p, .int .i64 q, .pointer (some ⟨w.heap.size, 0, none⟩), undef, undef, .string ⟨#[]⟩, .bool false, .pointer (some ⟨gb, 0, none⟩), .bool f, u10, .agg #[.slice A0_0 l0_0.length c0_0, .slice (some ad1) l0_1.length c0_1], .int .i64 x, .int .i64 y, .bool true, .bool false, .agg #[.func (.func 69) #[] #[], .map (some b)], .pointer (some ⟨w.heap.size, 1, none⟩), .slice (some ad1) l0_1.length c0_1, .pointer (some ⟨w.heap.size, 1, none⟩), .slice (some ad1) l0_1.length c0_1, .int .i64 (l0_1.length : Int), .int .i64 top, .pointer (some (ad1.add top.toNat)), .bool (rdOf false l0_1 top), v25, .int .i64 p, .bool true, .bool true, undef, undef, .bool true, .int .i64 q, .bool false, .bool false, undef, undef, undef, undef, undef, u40, u41, u42, u43, u44, u45, u46, u47, u48, u49, u50, u51, u52, u53, u54, u55, u56, undef, undef], defers := [] }) #[true, true, true, true, true, true, true, true, false, false, false, false, false, false, false] lt5_op7 rfl (by kernel_rfl) (fun _ _ _ h => h) (Or.inr ⟨by rfl, rfl⟩) (by simp only [Act.put, List.setIfInBounds_toArray, List.set_cons_zero, List.set_cons_succ]) ?_
        refine pure_ (i := 8) (N := some 40) (v := undef) (a' := { tmps := #[.agg #[.slice A0_0 l0_0.length c0_0, .slice (some ad1) l0_1.length c0_1], .int .i64 p, .int .i64 q, .pointer (some ⟨w.heap.size, 0, none⟩), undef, undef, .string ⟨#[]⟩, .bool false, .pointer (some ⟨gb, 0, none⟩), .bool f, u10, .agg #[.slice A0_0 l0_0.length c0_0, .slice (some ad1) l0_1.length c0_1], .int .i64 x, .int .i64 y, .bool true, .bool false, .agg #[.func (.func 69) #[] #[], .map (some b)], .pointer (some ⟨w.heap.size, 1, none⟩), .slice (some ad1) l0_1.length c0_1, .pointer (some ⟨w.heap.size, 1, none⟩), .slice (some ad1) l0_1.length c0_1, .int .i64 (l0_1.length : Int), .int .i64 top, .pointer (some (ad1.add top.toNat)), .bool (rdOf false l0_1 top), v25, .int .i64 p, .bool true, .bool true, undef, undef, .bool true, .int .i64 q, .bool false, .bool false, undef, undef, undef, undef, undef, undef, u41, u42, u43, u44, u45, u46, u47, u48, u49, u50, u51, u52, u53, u54, u55, u56, undef, undef], defers := [] }) #[true, true, true, true, true, true, true, true, true, false, false, false, false, false, false] lt5_op8 rfl (by kernel_rfl) (fun _ _ _ h => h) (Or.inr ⟨by rfl, rfl⟩) (by simp only [Act.put, List.setIfInBounds_toArray, List.set_cons_zero, List.set_cons_succ]) ?_
        refine pure_ (i := 9) (N := some 41) (v := undef) (a' := { tmps := #[.agg #[.slice A0_0 l0_0.length c0_0, .slice (some ad1) l0_1.length c0_1], .int .i64 p, .int .i64 q, .pointer (some ⟨w.heap.size, 0, none⟩), undef, undef, .string ⟨#[]⟩, .bool false, .pointer (some ⟨gb, 0, none⟩), .bool f, u10, .agg #[.slice A0_0 l0_0.length c0_0, .slice (some ad1) l0_1.length c0_1], .int .i64 x, .int .i64 y, .bool true, .bool false, .agg #[.func (.func 69) #[] #[], .map (some b)], .pointer (some ⟨w.heap.size, 1, none⟩), .slice (some ad1) l0_1.length c0_1, .pointer (some ⟨w.heap.size, 1, none⟩), .slice (some ad1) l0_1.length c0_1, .int .i64 (l0_1.length : Int), .int .i64 top, .pointer (some (ad1.add top.toNat)), .bool (rdOf false l0_1 top), v25, .int .i64 p, .bool true, .bool true, undef, undef, .bool true, .int .i64 q, .bool false, .bool false, undef, undef, undef, undef, undef, undef, undef, u42, u43, u44, u45, u46, u47, u48, u49, u50, u51, u52, u53, u54, u55, u56, undef, undef], defers := [] }) #[true, true, true, true, true, true, true, true, true, true, false, false, false, false, false] lt5_op9 rfl (by kernel_rfl) (fun _ _ _ h => h) (Or.inr ⟨by rfl, rfl⟩) (by simp only [Act.put, List.setIfInBounds_toArray, List.set_cons_zero, List.set_cons_succ]) ?_
        refine pure_ (i := 10) (N := some 42) (v := undef) (a' := { tmps := #[.agg #[.slice A0_0 l0_0.length c0_0, .slice (some ad1) l0_1.length c0_1], .int .i64 p, .int .i64 q, .pointer (some ⟨w.heap.size, 0, none⟩), undef, undef, .string ⟨#[]⟩, .bool false, .pointer (some ⟨gb, 0, none⟩), .bool f, u10, .agg #[.slice A0_0 l0_0.length c0_0, .slice (some ad1) l0_1.length c0_1], .int .i64 x, .int .i64 y, .bool true, .bool false, .agg #[.func (.func 69) #[] #[], .map (some b)], .pointer (some ⟨w.heap.size, 1, none⟩), .slice (some ad1) l0_1.length c0_1, .pointer (some ⟨w.heap.size, 1, none⟩), .slice (some ad1) l0_1.length c0_1, .int .i64 (l0_1.length : Int), .int .i64 top, .pointer (some (ad1.add top.toNat)), .bool (rdOf false l0_1 top), v25, .int .i64 p, .bool true, .bool true, undef, undef, .bool true, .int .i64 q, .bool false, .bool false, undef, undef, undef, undef, undef, undef, undef, undef, u43, u44, u45, u46, u47, u48, u49, u50, u51, u52, u53, u54, u55, u56, undef, undef], defers := [] }) #[true, true, true, true, true, true, true, true, true, true, true, false, false, false, false] lt5_op10 rfl (by kernel_rfl) (fun _ _ _ h => h) (Or.inr ⟨by rfl, rfl⟩) (by simp only [Act.put, List.setIfInBounds_toArray, List.set_cons_zero, List.set_cons_succ]) ?_
        refine pure_ (i := 11) (N := some 43) (v := undef) (a' := { tmps := #[.agg #[.slice A0_0 l0_0.length c0_0, .slice (some ad1) l0_1.length c0_1], .int .i64 p, .int .i64 q, .pointer (some ⟨w.heap.size, 0, none⟩), undef, undef, .string ⟨#[]⟩, .bool false, .pointer (some ⟨gb, 0, none⟩), .bool f, u10, .agg #[.slice A0_0 l0_0.length c0_0, .slice (some ad1) l0_1.length c0_1], .int .i64 x, .int .i64 y, .bool true, .bool false, .agg #[.func (.func 69) #[] #[], .map (some b)], .pointer (some ⟨w.heap.size, 1, none⟩), .slice (some ad1) l0_1.length c0_1, .pointer (some ⟨w.heap.size, 1, none⟩), .slice (some ad1) l0_1.length c0_1, .int .i64 (l0_1.length : Int), .int .i64 top, .pointer (some (ad1.add top.toNat)), .bool (rdOf false l0_1 top), v25, .int .i64 p, .bool true, .bool true, undef, undef, .bool true, .int .i64 q, .bool false, .bool false, undef, undef, undef, undef, undef, undef, undef, undef, undef, u44, u45, u46, u47, u48, u49, u50, u51, u52, u53, u54, u55, u56, undef, undef], defers := [] }) #[true, true, true, true, true, true, true, true, true, true, true, true, false, false, false] lt5_op11 rfl (by kernel_rfl) (fun _ _ _ h => h) (Or.inr ⟨by rfl, rfl⟩) (by simp only [Act.put, List.setIfInBounds_toArray, List.set_cons_zero, List.set_cons_succ]) ?_
        refine pure_ (i := 12) (N := some 44) (v := undef) (a' := { tmps := #[.agg #[.slice A0_0 l0_0.length c0_0, .slice (some ad1) l0_1.length c0_1], .int .i64 p, .int .i64 q, .pointer (some ⟨w.heap.size, 0, none⟩), undef, undef, .string ⟨#[]⟩, .bool false, .pointer (some ⟨gb, 0, none⟩), .bool f, u10, .agg #[.slice A0_0 l0_0.length c0_0, .slice (some ad1) l0_1.length c0_1], .int .i64 x, .int .i64 y, .bool true, .bool false, .agg #[.func (.func 69) #[] #[], .map (some b)], .pointer (some ⟨w.heap.size, 1, none⟩), .slice (some ad1) l0_1.length c0_1, .pointer (some ⟨w.heap.size, 1, none⟩), .slice (some ad1) l0_1.length c0_1, .int .i64 (l0_1.length : Int), .int .i64 top, .pointer (some (ad1.add top.toNat)), .bool (rdOf false l0_1 top), v25, .int .i64 p, .bool true, .bool true, undef, undef, .bool true, .int .i64 q, .bool false, .bool false, undef, undef, undef, undef, undef, undef, undef, undef, undef, undef, u45, u46, u47, u48, u49, u50, u51, u52, u53, u54, u55, u56, undef, undef], defers := [] }) #[true, true, true, true, true, true, true, true, true, true, true, true, true, false, false] lt5_op12 rfl (by kernel_rfl) (fun _ _ _ h => h) (Or.inr ⟨by rfl, rfl⟩) (by simp only [Act.put, List.setIfInBounds_toArray, List.set_cons_zero, List.set_cons_succ]) ?_
        refine pure_ (i := 13) (N := some 45) (v := undef) (a' := { tmps := #[.agg #[.slice A0_0 l0_0.length c0_0, .slice (some ad1) l0_1.length c0_1], .int .i64 p, .int .i64 q, .pointer (some ⟨w.heap.size, 0, none⟩), undef, undef, .string ⟨#[]⟩, .bool false, .pointer (some ⟨gb, 0, none⟩), .bool f, u10, .agg #[.slice A0_0 l0_0.length c0_0, .slice (some ad1) l0_1.length c0_1], .int .i64 x, .int .i64 y, .bool true, .bool false, .agg #[.func (.func 69) #[] #[], .map (some b)], .pointer (some ⟨w.heap.size, 1, none⟩), .slice (some ad1) l0_1.length c0_1, .pointer (some ⟨w.heap.size, 1, none⟩), .slice (some ad1) l0_1.length c0_1, .int .i64 (l0_1.length : Int), .int .i64 top, .pointer (some (ad1.add top.toNat)), .bool (rdOf false l0_1 top), v25, .int .i64 p, .bool true, .bool true, undef, undef, .bool true, .int .i64 q, .bool false, .bool false, undef, undef, undef, undef, undef, undef, undef, undef, undef, undef, undef, u46, u47, u48, u49, u50, u51, u52, u53, u54, u55, u56, undef, undef], defers := [] }) #[true, true, true, true, true, true, true, true, true, true, true, true, true, true, false] lt5_op13 rfl (by kernel_rfl) (fun _ _ _ h => h) (Or.inr ⟨by rfl, rfl⟩) (by simp only [Act.put, List.setIfInBounds_toArray, List.set_cons_zero, List.set_cons_succ]) ?_
        refine pure_ (i := 14) (N := some 46) (v := .bool false) (a' := { tmps := #[.agg #[.slice A0_0 l0_0.length c0_0, .slice (some ad1) l0_1.length c0_1], .int .i64 p, .int .i64 q, .pointer (some ⟨w.heap.size, 0, none⟩), undef, undef, .string ⟨#[]⟩, .bool false, .pointer (some ⟨gb, 0, none⟩), .bool f, u10, .agg #[.slice A0_0 l0_0.length c0_0, .slice (some ad1) l0_1.length c0_1], .int .i64 x, .int .i64 y, .bool true, .bool false, .agg #[.func (.func 69) #[] #[], .map (some b)], .pointer (some ⟨w.heap.size, 1, none⟩), .slice (some ad1) l0_1.length c0_1, .pointer (some ⟨w.heap.size, 1, none⟩), .slice (some ad1) l0_1.length c0_1, .int .i64 (l0_1.length : Int), .int .i64 top, .pointer (some (ad1.add top.toNat)), .bool (rdOf false l0_1 top), v25, .int .i64 p, .bool true, .bool true, undef, undef, .bool true, .int .i64 q, .bool false, .bool false, undef, undef, undef, undef, undef, undef, undef, undef, undef, undef, undef, .bool false, u47, u48, u49, u50, u51, u52, u53, u54, u55, u56, undef, undef], defers := [] }) #[true, true, true, true, true, true, true, true, true, true, true, true, true, true, true] lt5_op14 rfl (by kernel_rfl) (fun _ _ _ h => h) (Or.inl ⟨by rfl, ?_⟩) (by simp only [Act.put, List.setIfInBounds_toArray, List.set_cons_zero, List.set_cons_succ]) ?_
        · intro w'
          go_simp
          first | done | (simp only [i64_w]; done) | rfl
        refine done_ (by kernel_rfl) ?_
        have HR2 := Aside0.mk (Kd.R_drew HR.out)
        have HM2 := Aside0.mk (show MapOk mn b n wr.drew from HM.out.1.same rfl)
        have HB2 := Aside0.mk (below_drew HB.out)
        have HG2 := Aside0.mk (blk_drew HG.out)
        clear hHeld hb0
        go_wp2_with ((with_reducible refine gate_builtin (b := .append) (xs := #[.tmp 52, .tmp 53]) rfl ?_); at_builtin; refine Kd.R_append (Kd.int .u8) (w0 := w) w.heap.size rfl (.tmp 52) (.tmp 53) 111 5 (.int .u8 0) 1 rfl Try.underlying111 infoB rfl (by decide) (by omega) u10 xs 117 [.int .u8 117] (fun k => k ≠ b) (fun _ => False) rfl rfl rfl (fun _ hk => hk.elim) (fun k hk e => absurd HM2.out.lt (by omega)) HR2.out HB2.out HB2.out.size (by have := HL.out; have := HZ.out; omega) ?_; intro v1 w5 ho hb5 hg5 hat5; have HR5 := Aside0.mk ho; have HB5 := Aside0.mk hb5; have HM5 := Aside0.mk (HM2.out.same (hg5.block b HM2.out.lt (fun e => HR2.out.1 b e.symm rfl))); have HG5 := Aside0.mk (blk_grown HG2.out hg5 (Kd.R_ne HR2.out HG2.out (by decide))); clear ho hb5 hg5 hat5)
        go_roundg (u' + 0)
        case measure => have := HU.out; omega
        case rel =>
          exact ⟨wrap64 (p - 1), q, u', 0, _, true, v1, xs ++ [117], rfl, rfl, rfl, rfl, ⟨by have := HP.out; unfold wrap64; omega⟩, ⟨Nat.le_refl _⟩, ⟨HM5.out, Nat.le_trans (Nat.add_le_add_left (Nat.mul_le_mul_right _ (Nat.le_succ u')) n) HM.out.2⟩, HR5, ⟨by have h1 := HS.out; rw [HS1.out] at h1; rw [List.append_assoc]; exact h1⟩, ⟨by have := HL.out; simp only [List.length_append, List.length_cons, List.length_nil]; omega⟩, HG5, HB5⟩
      · have c1 : decide (0 < p) = false := decide_eq_false (by omega)
        obtain rfl : u = 0 := by omega
        have hcv := conv_row HR.out
        have hS1 : xs = ltS (u0 + d0) u0 d0 (rdOf false l0_1 top) := by
          have := HS.out
          rw [show ltS (0 + 0) 0 0 f = [] from rfl, List.append_nil] at this
          exact this
        have HS1 := Aside0.mk hS1
        clear hS1 hu hp hd
        go_wp2
        go_ret2
        exact ⟨by rw [HS1.out]; rfl, HB.out⟩
def impl_LeastTraffic.f (l0_0 : List Int) (l0_1 : List Bool) (a1 : Int) (a2 : Int) : Option (ByteArray × Bool) := (impl_areShips.f l0_0 l0_1 a1 a2).bind fun t => if t = true then (if (l0_1.length = l0_0.length ∧ 1 ≤ l0_0.length ∧ l0_0.length ≤ 1000) ∧ 0 ≤ a1 ∧ a1 ≤ 10 ∧ 0 ≤ a2 ∧ a2 ≤ 10 then some (strOfNums (ltS (a1.toNat + a2.toNat) a1.toNat a2.toNat (rdOf false l0_1 ((l0_1.length : Int) - 1))), true) else none) else some ((⟨#[]⟩ : ByteArray), false)
set_option maxHeartbeats 2000000 in
set_option maxRecDepth 100000 in
theorem impl_LeastTraffic.calls (A0_0 : Option Addr) (c0_0 : Nat) (l0_0 : List Int) (A0_1 : Option Addr) (c0_1 : Nat) (l0_1 : List Bool) (a1 : Int) (a2 : Int) (r1 : ByteArray) (r2 : Bool) (w : World) (hr0_0 : Kd.C (Kd.int .i64) w A0_0 l0_0.length l0_0) (hc0_0 : l0_0.length ≤ c0_0) (hr0_1 : Kd.C Kd.bool w A0_1 l0_1.length l0_1) (hc0_1 : l0_1.length ≤ c0_1) (h : impl_LeastTraffic.f l0_0 l0_1 a1 a2 = some (r1, r2)) :
    Calls Try.prog 43 #[.agg #[.slice A0_0 l0_0.length c0_0, .slice A0_1 l0_1.length c0_1], .int .i64 a1, .int .i64 a2] w fun e w' => e = .returned (.tuple #[.string r1, .bool r2]) ∧ Below w.heap.size w w' := by
  obtain ⟨t, hT, h⟩ := Option.bind_eq_some_iff.mp h
  have HA := Aside0.mk (below_alloc (Below.refl w.heap.size w) (.cells #[.slice A0_0 l0_0.length c0_0, .slice A0_1 l0_1.length c0_1] 61))
  cases t with
  | false =>
    rw [if_neg (by decide)] at h
    simp only [Option.some.injEq, Prod.mk.injEq] at h
    obtain ⟨rfl, rfl⟩ := h
    have hT1 := Aside0.mk (fun (W : World) (hb : Below w.heap.size w W) => impl_areShips.calls A0_0 c0_0 l0_0 A0_1 c0_1 l0_1 a1 a2 false W (Kd.C_below hr0_0 hb) hc0_0 (Kd.C_below hr0_1 hb) hc0_1 hT)
    clear hr0_0 hc0_0 hr0_1 hc0_1 hT
    go_enter Try.func43, Try.ntmps43
    go_wp2_with (go_at_call 71; refine (hT1.out _ HA.out).mono ?_; rintro e w1 ⟨rfl, hb⟩; have HB := Aside0.mk (below_then HA.out HA.out.size hb); clear hb)
    go_ret2
    exact ⟨rfl, HB.out⟩
  | true =>
    rw [if_pos rfl] at h
    by_cases hg : (l0_1.length = l0_0.length ∧ 1 ≤ l0_0.length ∧ l0_0.length ≤ 1000) ∧ 0 ≤ a1 ∧ a1 ≤ 10 ∧ 0 ≤ a2 ∧ a2 ≤ 10
    · rw [if_pos hg] at h
      simp only [Option.some.injEq, Prod.mk.injEq] at h
      obtain ⟨rfl, rfl⟩ := h
      obtain ⟨ad1, rfl, hx1⟩ := Kd.at_bool hr0_1 ((l0_1.length : Int) - 1) (by omega) (by omega)
      exact leastTraffic.raw A0_0 c0_0 l0_0 ad1 c0_1 l0_1 a1 a2 _ a1.toNat a2.toNat w hr0_0 hc0_0 hr0_1 hc0_1 (by omega) (by omega) (by omega) (by omega) hT (by omega) (by omega) (by unfold wrap64; omega) hx1
    · rw [if_neg hg] at h
      exact absurd h (by simp)

end Go.Proofs.Ytminippcikenfaa.PFnExactLeastTraffic

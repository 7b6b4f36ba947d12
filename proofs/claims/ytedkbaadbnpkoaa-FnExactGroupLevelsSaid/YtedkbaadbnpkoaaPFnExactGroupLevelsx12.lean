/- Lean functions of the Go functions that the law FnExactGroupLevels reaches, and the proofs that the calls come to what they say (made by program). -/
import Derived.RangeFuncNested
import Derived.RangeFuncBox
import Derived.RangeFuncLeaves
import Derived.OwnWalkIn
import Derived.TacticsInMore
import Derived.LoopNIn
import Derived.LoopIn
import Derived.Shelf.SlSortCmp.SmallK
import Derived.Shelf.Small.Bits
import Derived.Test.YtedkbaadbnpkoaaPFnExactGroupLevelsx0
namespace Go.Proofs.Ytedkbaadbnpkoaa.PFnExactGroupLevels
open Go.RowKit Go.Proofs.YtedkbaadbnpkoaaW.PrintWords Go.Proofs.YtedkbaadbnpkoaaW.PrintLast Go.Proofs.YtedkbaadbnpkoaaW.PrintMore
attribute [local go_sem] max2_int min2_int max_two min_two max_three min_three max_four min_four   -- for this text's walks alone
set_option linter.unusedVariables false
set_option linter.unusedSimpArgs false

/-! ### impl_Tank_89: function 89 -/
section
open Go.Shelf Go.Lib Go.Sort
attribute [local go_sem] Oper.semAt_some
theorem take_rd (xs : List S63) (i : Int) (h0 : 0 ≤ i) (h1 : i < xs.length) : xs.take i.toNat ++ [rd_T63 xs i] = xs.take (i + 1).toNat := by
  have h : i.toNat < xs.length := by omega
  rw [show (i + 1).toNat = i.toNat + 1 by omega, List.take_add_one, List.getElem?_eq_getElem h]
  unfold rd_T63
  rw [List.getD_eq_getElem?_getD, List.getElem?_eq_getElem h]
  rfl
set_option maxRecDepth 100000 in
set_option maxHeartbeats 2000000 in
theorem values_in1 (F : Fence) (n : Nat) (hf : F.fn 111) (hro : F.round = none) (hn : 1 ≤ n) (l Bs : Nat) (A : Option Addr) (cap : Nat) (xs : List S63) (w0 : World) (hC : k63.C w0 A xs.length xs) (J Jx : List S63 → World → Prop)
    (W : World) (hJ : AbidesFrom W.heap.size J)
    (hY : ∀ pre x W, J pre W → pre.length < xs.length → YieldAt F (n - 1) Try.prog l #[.agg #[.int .i64 x.f0, .int .i64 x.f1, .int .i64 x.f2]] W fun e W' =>
      (e = .returned (.bool true) ∧ J (pre ++ [x]) W' ∧ Below w0.heap.size W W') ∨ (e = .returned (.bool false) ∧ Jx (pre ++ [x]) W'))
    (hB : Below w0.heap.size w0 W) (hBs : W.cell? ⟨Bs, 0, none⟩ = some (.slice A xs.length cap)) (h0 : J [] W) :
    CallsIn F n Try.prog 111 #[.func (.yield l) #[] #[], .pointer (some ⟨Bs, 0, none⟩)] W fun e W' => (∃ v, e = .returned v) ∧
      ((∃ ys, ys = xs ∧ J ys W') ∨ (∃ pre, pre <+: xs ∧ Jx pre W')) := by
  have hu63 := Try.underlying63
  have HC := Aside0.mk hC
  clear hC
  have HN := Aside0.mk (HC.out.2.1)
  refine callsIn_of_wp Try.func111 rfl hf ?_ hro
  simp only [Try.ntmps111, List.size_toArray, List.length_cons, List.length_nil, Nat.reduceAdd, Nat.reduceSub, Array.replicate_succ, Array.replicate_zero, List.push_toArray, List.append_toArray, List.nil_append, List.cons_append]
  gi_wp2
  gi_loopw [7] (fun i wr => ∃ x : Int, i = .int .i64 x ∧ Aside0 (0 ≤ x ∧ x ≤ xs.length) ∧ Aside0 (J (xs.take x.toNat) wr) ∧ Aside0 (Below w0.heap.size w0 wr) ∧ Aside0 (W.heap.size ≤ wr.heap.size))
    (fun i _ => xs.length - (intOf i).toNat)
  case atStart => exact ⟨0, rfl, ⟨by omega⟩, ⟨by simpa using h0⟩, ⟨hB⟩, ⟨Nat.le_refl _⟩⟩
  case round =>
    obtain ⟨x, rfl, HX, HJ, HB, HS⟩ := hrel
    clear hB h0
    by_cases hlt : x < (xs.length : Int)
    · have c1 : decide (x < (xs.length : Int)) = true := decide_eq_true hlt
      have c2 : decide (0 ≤ x) = true := decide_eq_true HX.out.1
      obtain ⟨ad, e1, hx0, hx1, hx2⟩ := at_T63 (Kd.C_below HC.out HB.out) x HX.out.1 hlt
      cases e1
      have q1 := eq_true HX.out.1
      have q2 := eq_true hlt
      have HL := Aside0.mk hlt
      have hJ' := hJ _ _ _ none HJ.out (World.grownBy_alloc wr (.cells #[.int .i64 (rd_T63 xs x).f0, .int .i64 (rd_T63 xs x).f1, .int .i64 (rd_T63 xs x).f2] 63) none) (fun r e => by cases e)
      obtain ⟨fn, tmps, assign, body, hy, hR⟩ := hY _ (rd_T63 xs x) _ hJ' (by have h1_ := HX.out; rw [List.length_take]; omega)
      have HR := Aside0.mk hR
      clear hlt hJ' hR hY
      gi_wp2
      refine HR.out.mono ?_
      rintro e W3 (⟨rfl, hJ3, hk3⟩ | ⟨rfl, hJx3⟩)
      · gi_wp2
        go_roundw
        case rel =>
          have hw : wrap64 (x + 1) = x + 1 := by have := HX.out.1; have := HL.out; have := HN.out; unfold wrap64; omega
          refine ⟨x + 1, by rw [hw], ⟨by have := HX.out.1; have := HL.out; omega⟩, ⟨?_⟩, ⟨?_⟩, ⟨?_⟩⟩
          · rw [← take_rd xs x HX.out.1 HL.out]; exact hJ3
          · exact (below_alloc HB.out _).trans hk3
          · have := HS.out; have := hk3.size; simp at this; omega
        case measure =>
          have := HX.out.1
          have := HL.out
          have hw : wrap64 (x + 1) = x + 1 := by have h3_ := HN.out; unfold wrap64; omega
          simp only [intOf]
          rw [hw]
          omega
      · gi_wp2
        refine bodyPost_ret (results_none rfl _ _ _) rfl ?_
        exact ⟨⟨_, rfl⟩, .inr ⟨_, ⟨xs.drop (x + 1).toNat, by rw [take_rd xs x HX.out.1 HL.out, List.take_append_drop]⟩, hJx3⟩⟩
    · have c1 : decide (x < (xs.length : Int)) = false := decide_eq_false hlt
      have HL := Aside0.mk hlt
      clear hlt
      gi_wp2
      go_end0
      exact ⟨⟨_, rfl⟩, .inl (by have h := HJ.out; rw [List.take_of_length_le (by have h1_ := HX.out; have h2_ := HL.out; omega)] at h; exact h)⟩
theorem cells_take3 {w : World} {x : S63} {B : Nat} (h : w.heap[B]? = some (.cells #[.int .i64 x.f0, .int .i64 x.f1, .int .i64 x.f2] 63 (0, 0))) : w.cell? ⟨B, 0, none⟩ = some (.int .i64 x.f0) ∧ w.cell? ⟨B, 1, none⟩ = some (.int .i64 x.f1) ∧ w.cell? ⟨B, 2, none⟩ = some (.int .i64 x.f2) :=
  ⟨(blk_cell h 0).trans rfl, (blk_cell h 1).trans rfl, (blk_cell h 2).trans rfl⟩
/-- the cells of a row of tanks -/
def cellsOf (xs : List S63) : List Value := xs.flatMap fun x => [.int .i64 x.f0, .int .i64 x.f1, .int .i64 x.f2]
theorem cellsOf_snoc (xs : List S63) (x : S63) : cellsOf (xs ++ [x]) = cellsOf xs ++ [.int .i64 x.f0, .int .i64 x.f1, .int .i64 x.f2] := by simp [cellsOf]
theorem info63b : (Try.prog.info? 63).map (fun i => (i.zero, i.size, i.bytes)) = some (some (.agg #[.int .i64 0, .int .i64 0, .int .i64 0]), 3, 24) := by kernel_rfl
theorem hw_new (w : World) (o : Obj) : (w.alloc o).heap[w.heap.size]? = some o := by unfold World.alloc; exact Array.getElem?_push_size
theorem cell_three_new (w : World) (a b c : Value) (t : TypeId) : ∀ j u, [a, b, c][j]? = some u → (w.alloc (.cells #[a, b, c] t)).cell? ((⟨w.heap.size, 0, none⟩ : Addr).add j) = some u := by
  intro j u h
  have h1 := blk_cell (hw_new w (.cells #[a, b, c] t)) j
  have e : ((⟨w.heap.size, 0, none⟩ : Addr).add j) = ⟨w.heap.size, j, none⟩ := by simp [Addr.add]; intro h; exact h.symm
  rw [e, h1]
  simpa using h
theorem values_stops (F : Fence) (n : Nat) (hf : F.fn 111) (hro : F.round = none) (hn : 1 ≤ n) (Bs : Nat) (A : Option Addr) (cap : Nat) (xs : List S63) (w0 w : World) (hC : k63.C w0 A xs.length xs) (hBs : Bs < w.heap.size) (hw : Below w0.heap.size w0 w)
    (hc : w.cell? ⟨Bs, 0, none⟩ = some (.slice A xs.length cap)) :
    SeqStopsK F n Try.prog 111 #[.pointer (some ⟨Bs, 0, none⟩)] (fun x : S63 => #[.agg #[.int .i64 x.f0, .int .i64 x.f1, .int .i64 x.f2]]) (Below w0.heap.size) (fun ys => ys = xs) (fun pre => pre <+: xs) xs.length w :=
  fun l J Jx W hW hJ _ hY h0 => values_in1 F n hf hro hn l Bs A cap xs w0 hC J Jx W hJ hY (hw.trans (hW.mono hw.size)) ((hW.cell (p := ⟨Bs, 0, none⟩) hBs).trans hc) h0
set_option maxRecDepth 100000 in
set_option maxHeartbeats 2000000 in
theorem appendSeq_in (F : Fence) (n : Nat) (h115 : F.fn 115) (h111 : F.fn 111) (hro : F.round = none) (hn : 3 ≤ n) (Bs : Nat) (A : Option Addr) (cap : Nat) (xs : List S63) (w : World) (hC : k63.C w A xs.length xs) (hlen : xs.length ≤ 1000) (hBs : Bs < w.heap.size) (hc : w.cell? ⟨Bs, 0, none⟩ = some (.slice A xs.length cap)) :
    CallsIn F n Try.prog 115 #[.slice none 0 0, .func (.func 111) #[] #[.pointer (some ⟨Bs, 0, none⟩)]] w fun e W' => ∃ v, e = .returned v ∧ W'.ownsRow w.heap.size 63 3 v xs.length (cellsOf xs) ∧ Below w.heap.size w W' := by
  have h1 : 1 ≤ n := by omega
  obtain ⟨i0, hi, hz0, hz1, hz2⟩ := info_parts info63b
  refine callsIn_of_wp_marks Try.func115 rfl h115 ?_ hro
  simp only [Try.ntmps115, List.size_toArray, List.length_cons, List.length_nil, Nat.reduceAdd, Nat.reduceSub, Array.replicate_succ, Array.replicate_zero, List.push_toArray, List.append_toArray, List.nil_append, List.cons_append]
  gi_wp2
  have bO := Boxed.new w 27 (.slice none 0 0)
  have hB0 : Below w.heap.size w (w.alloc (.cells #[.slice none 0 0] 27)) := (Below.refl _ w).alloc (Nat.le_refl _) _
  refine wpIn_rangeFunc_ownH hro h1 (gf := 111) (lb := #[.pointer (some ⟨Bs, 0, none⟩)]) rfl h111 (enters_of Try.func111 (by kernel_rfl) rfl)
    (values_stops F (n - 1) h111 hro (by omega) Bs A cap xs w _ hC (by simp; omega) hB0 ((hB0.cell (p := ⟨Bs, 0, none⟩) hBs).trans hc)) belowK_t (belowK_b (by simp)) (Below.refl _ _) (fun _ => rfl)
    (fun pre W => (∃ v, Boxed W w.heap.size 27 v ∧ W.ownsRow w.heap.size 63 3 v pre.length (cellsOf pre) ∧ True) ∧ Below w.heap.size w W)
    (fun _ _ _ => False)
    (OwnFrom.and (Own.from (holdsRow_own w.heap.size w.heap.size 27 63 3 (fun pre : List S63 => pre.length) (fun pre => cellsOf pre) (fun _ _ => True)) _) (ownFrom_below (Nat.le_refl _) (by simp)))
    (fun _ _ _ _ _ hs _ _ => hs)
    ⟨⟨_, bO, World.ownsRow_nil _ _ _ _, trivial⟩, hB0⟩
    (fun x a' W => ∃ Bx, w.heap.size < Bx ∧ W.heap[Bx]? = some (.cells #[.int .i64 x.f0, .int .i64 x.f1, .int .i64 x.f2] 63 (0, 0)) ∧ a' = { tmps := #[.slice none 0 0, .func (.func 111) #[] #[.pointer (some ⟨Bs, 0, none⟩)], .pointer (some ⟨w.heap.size, 0, none⟩), undef, .slice none 0 0, .pointer (some ⟨Bx, 0, none⟩), .func (.func 111) #[] #[.pointer (some ⟨Bs, 0, none⟩)], .agg #[.int .i64 x.f0, .int .i64 x.f1, .int .i64 x.f2], undef, undef, undef, undef, undef], defers := [] })
    ?hAx ?assign ?body ?done ?stop
  case hAx =>
    intro x a' s X Y row hs hg hr
    obtain ⟨Bx, h1, h2, h3⟩ := hs
    exact ⟨Bx, h1, (hg.block Bx (blk_lt h2) (fun e => by obtain ⟨_, o, ho, hno⟩ := hr Bx e.symm; rw [h2] at ho; cases ho; cases hno)).trans h2, h3⟩
  case assign =>
    rintro l pre x W K ⟨⟨v, hv, hrow, _⟩, hB⟩ hK
    gi_wp2
    exact hK _ _ ((KeepsOthers.alloc _ _).from _) ((Below.refl _ W).alloc hB.size _) ⟨⟨_, hv.alloc _, hrow.alloc _, trivial⟩, hB.alloc hB.size _⟩ ⟨W.heap.size, hv.lt, World.alloc_heap_new W _, rfl⟩
  case body =>
    rintro l pre x a' W hl ⟨r, hr⟩ ⟨⟨v, hv, hrow, _⟩, hB⟩ ⟨Bx, hBx, bX, rfl⟩ hlt
    have hc := hv.cell
    obtain ⟨hx0, hx1, hx2⟩ := cells_take3 bX
    gi_wp2_with (gi_at_builtin; refine wpListIn_append_own _ rfl _ _ 27 rfl w.heap.size 63 i0 (.agg #[.int .i64 0, .int .i64 0, .int .i64 0]) 3 24 Try.underlying27 hi hz0 hz1 hz2 rfl (by decide) _ _ _ rfl (hrow.alloc _) ⟨W.heap.size, 0, none⟩ 1 1 [.int .i64 x.f0, .int .i64 x.f1, .int .i64 x.f2] rfl rfl (cell_three_new _ _ _ _ _) (by simp [Value.oneCell']) (by unfold maxLen; omega) (by omega) (by have := hB.size; simp; omega) ?_; intro v' w1 hown' hgrow _; obtain ⟨g', cap', rfl⟩ := ownsRow_succ hown'; obtain ⟨hv1, hv2, hr2, hk2, hb2⟩ := hv.appended (by decide) hrow hB.size (Nat.le_refl _) hown' hgrow; have hc1 := hv1.cell; have hf1 := hv1.frozen)
    exact ⟨hk2.from _, hb2, ⟨_, hv2, by rw [cellsOf_snoc]; simpa using hr2, trivial⟩, hB.trans hb2⟩
  case done =>
    rintro D ys W hD rfl ⟨⟨v, hv, hrow, _⟩, hB⟩ hK
    have hc := hv.cell
    gi_wp2
    refine ⟨by simp, .inl ⟨_, _, rfl, run_takeDeferred hK, ?_⟩⟩
    exact ⟨_, results_tmp rfl _ _ _, v, rfl, ownsRow_putObj hrow _ hK rfl, hB.trans (belowK_b (w := w) (Nat.le_refl _) W D _ _ (by simp at hD; omega) hK rfl rfl)⟩
  case stop =>
    rintro D c pre W _ _ h _
    exact h.elim
theorem reps_cellsOf (w : World) (base : Nat) (ok : Nat → Prop) : ∀ xs : List S63, Reps (k63.M w base ok) 3 xs (cellsOf xs)
  | [] => Reps.none _ _
  | x :: xs => by
    exact Reps.c3 (k63_mkM w base ok x) (reps_cellsOf w base ok xs)
set_option maxRecDepth 100000 in
set_option maxHeartbeats 2000000 in
theorem collect_in (Bs : Nat) (A : Option Addr) (cap : Nat) (xs : List S63) (w : World) (hC : k63.C w A xs.length xs) (hlen : xs.length ≤ 1000) (hBs : Bs < w.heap.size) (hc : w.cell? ⟨Bs, 0, none⟩ = some (.slice A xs.length cap)) :
    Calls Try.prog 109 #[.func (.func 111) #[] #[.pointer (some ⟨Bs, 0, none⟩)]] w fun e W' => ∃ v, e = .returned v ∧ W'.ownsRow w.heap.size 63 3 v xs.length (cellsOf xs) ∧ Below w.heap.size w W' := by
  have hA : ∀ W : World, W = w → Calls Try.prog 115 #[.slice none 0 0, .func (.func 111) #[] #[.pointer (some ⟨Bs, 0, none⟩)]] W fun e W' => ∃ v, e = .returned v ∧ W'.ownsRow w.heap.size 63 3 v xs.length (cellsOf xs) ∧ Below w.heap.size w W' := by
    rintro W rfl
    exact (callsIn_wide (n := 3)).1 (appendSeq_in Fence.wide 3 trivial trivial rfl (by omega) Bs A cap xs W hC hlen hBs hc)
  have HA := Aside0.mk (hA w rfl)
  clear hA hC hc
  go_enter Try.func109, Try.ntmps109
  go_wp2_with (go_at_call 115; refine HA.out.mono ?_; rintro e w' ⟨v, rfl, ho, hb⟩; have HO := Aside0.mk ho; have HB := Aside0.mk hb; clear ho hb)
  go_ret
  exact ⟨_, rfl, HO.out, HB.out⟩
def bitsLen2_ren : Go.Shelf.Ren := ⟨fun | 125 => 117 | 128 => 127 | 129 => 128 | n => n, fun | 46 => 111 | 3 => 3 | 51 => 121 | 53 => 123 | 4 => 4 | 5 => 5 | 9 => 9 | n => n, fun | n => n⟩
theorem bitsLen2 : Go.Proofs.Lays.n125 Try.prog bitsLen2_ren := {
  mixed := by kernel_rfl,
  f125 := Try.func117.trans (congrArg some (by kernel_rfl)),
  f128 := Try.func127.trans (congrArg some (by kernel_rfl)),
  f129 := Try.func128.trans (congrArg some (by kernel_rfl)),
  t3 := Try.underlying3,
  a3 := Try.isAgg3,
  z3 := Try.sizeOf3,
  v3 := Try.zeroValue3,
  t4 := Try.underlying4,
  a4 := Try.isAgg4,
  z4 := Try.sizeOf4,
  v4 := Try.zeroValue4,
  t5 := Try.underlying5,
  a5 := Try.isAgg5,
  z5 := Try.sizeOf5,
  v5 := Try.zeroValue5,
  t9 := Try.underlying9,
  a9 := Try.isAgg9,
  z9 := Try.sizeOf9,
  v9 := Try.zeroValue9,
  t46 := Try.underlying111,
  a46 := Try.isAgg111,
  z46 := Try.sizeOf111,
  v46 := Try.zeroValue111,
  t51 := Try.underlying121,
  a51 := Try.isAgg121,
  z51 := Try.sizeOf121,
  v51 := Try.zeroValue121,
  t53 := Try.underlying123,
  a53 := Try.isAgg123,
  z53 := Try.sizeOf123,
  v53 := Try.zeroValue123 }
def sortTank_ren : Go.Shelf.Ren := ⟨fun | 6 => 110 | 15 => 117 | 14 => 116 | 28 => 127 | 29 => 128 | 20 => 119 | 21 => 120 | 22 => 121 | 23 => 122 | 24 => 123 | 25 => 124 | 26 => 125 | 27 => 126 | 46 => 130 | 47 => 131 | 48 => 132 | 49 => 133 | 50 => 134 | 57 => 135 | n => n, fun | 22 => 27 | 24 => 63 | 25 => 95 | 3 => 3 | 39 => 111 | 0 => 0 | 53 => 121 | 55 => 123 | 4 => 4 | 46 => 114 | 45 => 113 | 50 => 118 | 5 => 5 | 9 => 9 | 66 => 124 | 70 => 128 | 76 => 130 | 77 => 131 | n => n, fun | n => n⟩
theorem sortTank : Go.Proofs.SlLaysF0.n6 Try.prog sortTank_ren := {
  mixed := by kernel_rfl,
  f6 := ⟨Try.f110.name, by decide, Try.func110.trans (congrArg some (by kernel_rfl))⟩,
  f14 := ⟨Try.f116.name, by decide, Try.func116.trans (congrArg some (by kernel_rfl))⟩,
  f15 := Try.func117.trans (congrArg some (by kernel_rfl)),
  f20 := ⟨Try.f119.name, by decide, Try.func119.trans (congrArg some (by kernel_rfl))⟩,
  f21 := ⟨Try.f120.name, by decide, Try.func120.trans (congrArg some (by kernel_rfl))⟩,
  f22 := ⟨Try.f121.name, by decide, Try.func121.trans (congrArg some (by kernel_rfl))⟩,
  f23 := ⟨Try.f122.name, by decide, Try.func122.trans (congrArg some (by kernel_rfl))⟩,
  f24 := ⟨Try.f123.name, by decide, Try.func123.trans (congrArg some (by kernel_rfl))⟩,
  f25 := ⟨Try.f124.name, by decide, Try.func124.trans (congrArg some (by kernel_rfl))⟩,
  f26 := ⟨Try.f125.name, by decide, Try.func125.trans (congrArg some (by kernel_rfl))⟩,
  f27 := ⟨Try.f126.name, by decide, Try.func126.trans (congrArg some (by kernel_rfl))⟩,
  f28 := Try.func127.trans (congrArg some (by kernel_rfl)),
  f29 := Try.func128.trans (congrArg some (by kernel_rfl)),
  f46 := ⟨Try.f130.name, by decide, Try.func130.trans (congrArg some (by kernel_rfl))⟩,
  f47 := Try.func131.trans (congrArg some (by kernel_rfl)),
  f48 := Try.func132.trans (congrArg some (by kernel_rfl)),
  f49 := ⟨Try.f133.name, by decide, Try.func133.trans (congrArg some (by kernel_rfl))⟩,
  f50 := ⟨Try.f134.name, by decide, Try.func134.trans (congrArg some (by kernel_rfl))⟩,
  f57 := ⟨Try.f135.name, by decide, Try.func135.trans (congrArg some (by kernel_rfl))⟩,
  t0 := Try.underlying0,
  a0 := Try.isAgg0,
  z0 := Try.sizeOf0,
  v0 := Try.zeroValue0,
  t3 := Try.underlying3,
  a3 := Try.isAgg3,
  z3 := Try.sizeOf3,
  v3 := Try.zeroValue3,
  t4 := Try.underlying4,
  a4 := Try.isAgg4,
  z4 := Try.sizeOf4,
  v4 := Try.zeroValue4,
  t5 := Try.underlying5,
  a5 := Try.isAgg5,
  z5 := Try.sizeOf5,
  v5 := Try.zeroValue5,
  t9 := Try.underlying9,
  a9 := Try.isAgg9,
  z9 := Try.sizeOf9,
  v9 := Try.zeroValue9,
  t22 := Try.underlying27,
  a22 := Try.isAgg27,
  z22 := Try.sizeOf27,
  v22 := Try.zeroValue27,
  t25 := Try.underlying95,
  a25 := Try.isAgg95,
  z25 := Try.sizeOf95,
  v25 := Try.zeroValue95,
  t39 := Try.underlying111,
  a39 := Try.isAgg111,
  z39 := Try.sizeOf111,
  v39 := Try.zeroValue111,
  t45 := Try.underlying113,
  a45 := Try.isAgg113,
  z45 := Try.sizeOf113,
  v45 := Try.zeroValue113,
  t46 := Try.underlying114,
  a46 := Try.isAgg114,
  z46 := Try.sizeOf114,
  v46 := Try.zeroValue114,
  t50 := Try.underlying118,
  a50 := Try.isAgg118,
  z50 := Try.sizeOf118,
  v50 := Try.zeroValue118,
  t53 := Try.underlying121,
  a53 := Try.isAgg121,
  z53 := Try.sizeOf121,
  v53 := Try.zeroValue121,
  t55 := Try.underlying123,
  a55 := Try.isAgg123,
  z55 := Try.sizeOf123,
  v55 := Try.zeroValue123,
  t66 := Try.underlying124,
  a66 := Try.isAgg124,
  z66 := Try.sizeOf124,
  v66 := Try.zeroValue124,
  t70 := Try.underlying128,
  a70 := Try.isAgg128,
  z70 := Try.sizeOf128,
  v70 := Try.zeroValue128,
  t76 := Try.underlying130,
  a76 := Try.isAgg130,
  z76 := Try.sizeOf130,
  v76 := Try.zeroValue130,
  t77 := Try.underlying131,
  a77 := Try.isAgg131,
  z77 := Try.sizeOf131,
  v77 := Try.zeroValue131 }

/-- a tank's cells -/
def encT (x : S63) : List Value := [.int .i64 x.f0, .int .i64 x.f1, .int .i64 x.f2]
instance : Inhabited S63 := ⟨z63⟩
def cmpT (x y : S63) : Int := if x.f1 < y.f1 then -1 else if x.f1 > y.f1 then 1 else 0
theorem hlen2 (n : Nat) (W : World) (h : n ≤ 12) : Calls Try.prog 117 #[.int .u64 n] W fun e w' => (∃ l : Int, e = .returned (.int .i64 l)) ∧ w' = W :=
  (Any.bits_Len bitsLen2 n W (by omega) (by omega)).mono fun _ _ ⟨he, hw⟩ => ⟨⟨_, he⟩, hw⟩
set_option maxRecDepth 100000 in
set_option maxHeartbeats 1000000 in
theorem common_closure (x y : S63) (W : World) : Calls Try.prog 91 #[.agg #[.int .i64 x.f0, .int .i64 x.f1, .int .i64 x.f2], .agg #[.int .i64 y.f0, .int .i64 y.f1, .int .i64 y.f2]] W fun e w' => e = .returned (.int .i64 (cmpT x y)) ∧ ∃ q os', w' = grow (W.drewN q) os' := by
  have hu63 := Try.underlying63
  unfold cmpT
  by_cases h1 : x.f1 < y.f1
  · rw [if_pos h1]
    go_enter Try.func91, Try.ntmps91
    go_wp2
    go_ret
    exact ⟨rfl, 0, _, by rw [alloc_eq_grow, alloc_eq_grow, grow_grow]; rfl⟩
  · rw [if_neg h1]
    by_cases h2 : x.f1 > y.f1
    · rw [if_pos h2]
      have h3 : y.f1 < x.f1 := h2
      have h4 : ¬ x.f1 < y.f1 := h1
      go_enter Try.func91, Try.ntmps91
      go_wp2
      go_ret
      exact ⟨rfl, 0, _, by rw [alloc_eq_grow, alloc_eq_grow, grow_grow]; rfl⟩
    · rw [if_neg h2]
      have h3 : ¬ y.f1 < x.f1 := h2
      go_enter Try.func91, Try.ntmps91
      go_wp2
      go_ret
      exact ⟨rfl, 0, _, by rw [alloc_eq_grow, alloc_eq_grow, grow_grow]; rfl⟩
theorem cells_get : ∀ (xs : List S63) (t : Nat), t < xs.length * 3 → (cellsOf xs)[t]? = some ((encT (xs.toArray)[t / 3]!)[t % 3]!)
  | [], t, h => by simp at h
  | x :: xs, t, h => by
    have e : cellsOf (x :: xs) = encT x ++ cellsOf xs := by simp [cellsOf, encT]
    rw [e]
    by_cases ht : t < 3
    · rw [List.getElem?_append_left (by simpa [encT] using ht)]
      have h0 : t / 3 = 0 := by omega
      rw [h0, show t % 3 = t by omega]
      rcases (by omega : t = 0 ∨ t = 1 ∨ t = 2) with rfl | rfl | rfl <;> rfl
    · rw [List.getElem?_append_right (by simp [encT]; omega), show (encT x).length = 3 from rfl, cells_get xs (t - 3) (by simp at h; omega)]
      rw [show (t - 3) / 3 = t / 3 - 1 by omega, show (t - 3) % 3 = t % 3 by omega]
      obtain ⟨m, hm⟩ : ∃ m, t / 3 = m + 1 := ⟨t / 3 - 1, by omega⟩
      have hl : m < xs.length := by simp at h; omega
      rw [hm]
      simp [hl]
theorem cellsOf_len (xs : List S63) : (cellsOf xs).length = xs.length * 3 := by
  induction xs with
  | nil => rfl
  | cons x xs ih => rw [show cellsOf (x :: xs) = encT x ++ cellsOf xs by simp [cellsOf, encT], List.length_append, ih]; simp [encT]; omega
theorem flat_cellsOf (d : Array S63) : (flatK encT 3 d).toList = cellsOf d.toList := by
  apply List.ext_getElem?
  intro t
  by_cases ht : t < d.size * 3
  · rw [cells_get d.toList t (by simpa using ht), Array.getElem?_toList]
    simp [flatK, ht]
  · rw [List.getElem?_eq_none (by simp [flatK]; omega), List.getElem?_eq_none (by rw [cellsOf_len]; simp; omega)]
theorem size_insInner (lt : S63 → S63 → Bool) (a : Nat) : ∀ (j : Nat) (d : Array S63), (insInner lt a j d).size = d.size
  | 0, d => by simp [insInner]
  | j + 1, d => by
    unfold insInner
    split
    · rw [size_insInner lt a j, size_swp]
    · rfl
theorem size_insOuter (lt : S63 → S63 → Bool) (a b : Nat) : ∀ (m i : Nat) (d : Array S63), b - i ≤ m → (insOuter lt a b i d).size = d.size
  | 0, i, d, h => by rw [insOuter, if_neg (by omega)]
  | m + 1, i, d, h => by
    rw [insOuter]
    split
    · rw [size_insOuter lt a b m (i + 1) _ (by omega), size_insInner]
    · rfl
/-- the tanks by their floors, as Go's sort lays them -/
def sortT (l : List S63) : List S63 := (Sort.insertionSort (ltOf cmpT) l.toArray 0 l.length).toList
theorem sortT_len (l : List S63) : (sortT l).length = l.length := by
  unfold sortT Sort.insertionSort
  rw [Array.length_toList, size_insOuter _ _ _ (l.length) _ _ (by omega)]
  simp
theorem sort_in (l0 : List S63) (h12 : l0.length ≤ 12) (w2 : World) (g cap : Nat) (hH : HoldsK encT 3 w2 g 0 l0.toArray) (hblk : g < w2.heap.size) :
    Calls Try.prog 110 #[.slice (some ⟨g, 0, none⟩) l0.length cap, .func (.func 91) #[] #[]] w2 fun e w' => e = .returned (.tuple #[]) ∧ ∃ n os, w' = sortWorldK encT 3 w2 g 0 n (Sort.insertionSort (ltOf cmpT) l0.toArray 0 l0.length) os := by
  have h := AnyQ.slices_SortFunc_small sortTank 3 Try.isAgg63 Try.sizeOf63 encT (fun _ => rfl) (fun x v hv => by simp [encT] at hv; rcases hv with rfl | rfl | rfl <;> rfl) cmpT 91 #[] g 0 cap l0.toArray w2
    (enters_of Try.func91 (by kernel_rfl) rfl) (fun _ _ _ _ x y => common_closure x y _) hH hblk (by simpa using h12) hlen2
  rw [List.size_toArray] at h
  exact h
theorem row_sorted (base : Nat) (w : World) (g cap n : Nat) (cur : Array Value) (d : Array S63) (os : Array Obj) (m : Nat) (hb : base ≤ g) (hh : w.heap[g]? = some (.cells cur 63 (0, 0))) (hn : n ≤ cap) (hc : cap ≤ maxLen) (hs : cur.size = cap * 3) (hd : d.size = n) :
    Kd.R k63 63 (sortWorldK encT 3 w g 0 m d os) base (fun _ => True) (.slice (some ⟨g, 0, none⟩) n cap) d.toList := by
  have hl : g < w.heap.size := blk_lt hh
  have h1 : (putRowK encT 3 (Sort.ahead w m) g 0 d).heap[g]? = some (.cells (putCells id 0 (flatK encT 3 d) cur) 63 (0, 0)) := by
    show ((Sort.ahead w m).heap.modify g (onCells (putCells id 0 (flatK encT 3 d))))[g]? = _
    rw [Array.getElem?_modify, if_pos rfl, show (Sort.ahead w m).heap = w.heap from rfl, hh]
    rfl
  have h2 : (sortWorldK encT 3 w g 0 m d os).heap[g]? = some (.cells (putCells id 0 (flatK encT 3 d) cur) 63 (0, 0)) := by
    show ((putRowK encT 3 (Sort.ahead w m) g 0 d).heap ++ os)[g]? = _
    rw [Array.getElem?_append_left (blk_lt h1), h1]
  have hz : (putCells id 0 (flatK encT 3 d) cur).size = cap * 3 := by simp [putCells, hs]
  have ht : (putCells id 0 (flatK encT 3 d) cur).toList.take (n * 3) = cellsOf d.toList := by
    rw [← flat_cellsOf]
    apply List.ext_getElem?
    intro t
    by_cases h : t < n * 3
    · have h3 : n * 3 ≤ cap * 3 := Nat.mul_le_mul_right 3 hn
      rw [List.getElem?_take_of_lt h, Array.getElem?_toList, Array.getElem?_toList]
      simp only [putCells, Array.getElem?_mapIdx]
      rw [Array.getElem?_eq_getElem (show t < cur.size by omega), Option.map_some, if_pos ⟨by omega, by simp [hd]; omega⟩]
      have h4 : t < (flatK encT 3 d).size := by simp [hd]; omega
      rw [Array.getElem?_eq_getElem h4]
      simp only [Nat.sub_zero, id]
      rw [getElem!_pos _ t h4]
    · rw [List.getElem?_eq_none (by simp; omega), List.getElem?_eq_none (by simp [hd]; omega)]
  refine ⟨fun _ _ => trivial, cellsOf d.toList, ⟨by rw [cellsOf_len]; rfl, .inr ⟨g, cap, _, by simp [hd], hb, h2, by simp; omega, hc, hz, by simp only [Array.length_toList, hd]; exact ht⟩⟩, reps_cellsOf _ _ _ _⟩
theorem below_sortK {w w2 : World} {g : Nat} (h : RowKit.Below w.heap.size w w2) (hg : w.heap.size ≤ g) (n : Nat) (d : Array S63) (os : Array Obj) : RowKit.Below w.heap.size w (sortWorldK encT 3 w2 g 0 n d os) := by
  refine ⟨h.os, h.tape, h.output, ?_, fun k hk => ?_⟩
  · have := h.size
    show w.heap.size ≤ ((w2.heap.modify g (onCells (putCells id 0 (flatK encT 3 d)))) ++ os).size
    simp
    omega
  · rw [← h.block k hk]
    have hs := h.size
    show ((w2.heap.modify g (onCells (putCells id 0 (flatK encT 3 d)))) ++ os)[k]? = _
    rw [Array.getElem?_append_left (by simp; omega), Array.getElem?_modify, if_neg (by omega)]
theorem collect_in2 (Bs : Nat) (A : Option Addr) (cap : Nat) (xs : List S63) (w : World) (hC : k63.C w A xs.length xs) (h1 : 1 ≤ xs.length) (hlen : xs.length ≤ 1000) (hBs : Bs < w.heap.size) (hc : w.cell? ⟨Bs, 0, none⟩ = some (.slice A xs.length cap)) :
    Calls Try.prog 109 #[.func (.func 111) #[] #[.pointer (some ⟨Bs, 0, none⟩)]] w fun e W' => ∃ (g cap : Nat) (cur : Array Value), e = .returned (.slice (some ⟨g, 0, none⟩) xs.length cap) ∧ w.heap.size ≤ g ∧ W'.heap[g]? = some (.cells cur 63 (0, 0)) ∧ xs.length ≤ cap ∧ cap ≤ maxLen ∧ cur.size = cap * 3 ∧ HoldsK encT 3 W' g 0 xs.toArray ∧ Below w.heap.size w W' := by
  refine (collect_in Bs A cap xs w hC hlen hBs hc).mono ?_
  rintro e W' ⟨v, rfl, ⟨hl, ⟨rfl, h0⟩ | ⟨g, cap', cur, rfl, hg, hh, hn, hcap, hsz, htk⟩⟩, hb⟩
  · omega
  · refine ⟨g, cap', cur, rfl, hg, hh, hn, hcap, hsz, ?_, hb⟩
    intro j hj
    have hj2 : j < xs.length * 3 := by simpa using hj
    have e1 : (flatK encT 3 xs.toArray).toList = cellsOf xs := flat_cellsOf xs.toArray
    rw [Nat.zero_add]
    refine ⟨?_, blk_frozen hh j⟩
    rw [blk_cell hh j]
    have e2 : (cur.toList.take (xs.length * 3))[j]? = (flatK encT 3 xs.toArray).toList[j]? := by rw [e1, htk]
    rw [List.getElem?_take_of_lt hj2, Array.getElem?_toList, Array.getElem?_toList, Array.getElem?_eq_getElem hj] at e2
    rw [e2, getElem!_pos _ j hj]
    rfl
set_option maxRecDepth 100000 in
set_option maxHeartbeats 2000000 in
theorem sorted_in (A0 : Option Addr) (c0 : Nat) (l0 : List S63) (w : World) (hr0 : Kd.C k63 w A0 l0.length l0) (h1 : 1 ≤ l0.length) (h12 : l0.length ≤ 12) :
    Calls Try.prog 89 #[.func (.func 111) #[] #[.pointer (some ⟨w.heap.size, 0, none⟩)], .func (.func 91) #[] #[]] (w.alloc (.cells #[.slice A0 l0.length c0] 27)) fun e w' => ∃ v, e = .returned v ∧ Kd.R k63 63 w' w.heap.size (fun _ => True) v (sortT l0) ∧ Below w.heap.size w w' := by
  have HC := Aside0.mk (collect_in2 w.heap.size A0 c0 l0 (w.alloc (.cells #[.slice A0 l0.length c0] 27)) (Kd.C_alloc hr0 _) h1 (by omega) (by simp) ((blk_cell (hw_new w _) 0).trans rfl))
  have HB0 := Aside0.mk (below_alloc (Below.refl w.heap.size w) (.cells #[.slice A0 l0.length c0] 27))
  have HS := Aside0.mk (fun (w2 : World) (g cap : Nat) (hH : HoldsK encT 3 w2 g 0 l0.toArray) (hblk : g < w2.heap.size) => sort_in l0 h12 w2 g cap hH hblk)
  clear hr0
  go_enter Try.func89, Try.ntmps89
  go_wp2_with (first | (go_at_call 109; refine HC.out.mono ?_; rintro e w2 ⟨g, cap, cur, rfl, hg, hh, hn, hcap, hsz, hH, hb⟩; have HG := Aside0.mk hg; have HH := Aside0.mk hh; have HN := Aside0.mk hn; have HCP := Aside0.mk hcap; have HZ := Aside0.mk hsz; have HHK := Aside0.mk hH; have HB2 := Aside0.mk hb; clear hg hh hn hcap hsz hH hb) | (go_at_call 110; refine (HS.out _ _ _ HHK.out (blk_lt HH.out)).mono ?_; rintro e w3 ⟨rfl, n, os, hw⟩; have HW := Aside0.mk hw; clear hw))
  go_ret
  have hG := HG.out
  rw [World.size_alloc] at hG
  have hb3 : RowKit.Below w.heap.size w w2 := below_then HB0.out HB0.out.size HB2.out
  refine ⟨_, rfl, ?_, ?_⟩
  · rw [HW.out]
    have h := row_sorted w.heap.size w2 g cap l0.length cur (Sort.insertionSort (ltOf cmpT) l0.toArray 0 l0.length) os n (by omega) HH.out HN.out HCP.out HZ.out (by have := sortT_len l0; unfold sortT at this; rwa [Array.length_toList] at this)
    exact h
  · rw [HW.out]
    exact below_sortK hb3 (by omega) _ _ _
theorem values_call (A : Option Addr) (n c : Nat) (w : World) : Calls Try.prog 90 #[.slice A n c] w fun e w' => e = .returned (.func (.func 111) #[] #[.pointer (some ⟨w.heap.size, 0, none⟩)]) ∧ w' = w.alloc (.cells #[.slice A n c] 27) := by
  go_enter Try.func90, Try.ntmps90
  go_wp2
  go_ret
  exact ⟨rfl, rfl⟩
def impl_Tank_89.f (l0 : List S63) : Option (List S63) := if 1 ≤ l0.length ∧ l0.length ≤ 12 then some (sortT l0) else none
theorem impl_Tank_89.calls (A0 : Option Addr) (c0 : Nat) (l0 : List S63) (r : List S63) (w : World) (hr0 : Kd.C k63 w A0 l0.length l0) (hc0 : l0.length ≤ c0) (h : impl_Tank_89.f l0 = some r) :
    Calls Try.prog 89 #[.func (.func 111) #[] #[.pointer (some ⟨w.heap.size, 0, none⟩)], .func (.func 91) #[] #[]] (w.alloc (.cells #[.slice A0 l0.length c0] 27)) fun e w' => ∃ v0_ : Value, e = .returned (v0_) ∧ Kd.R k63 63 w' w.heap.size (fun _ => True) v0_ r ∧ RowKit.Below w.heap.size w w' := by
  unfold impl_Tank_89.f at h
  by_cases c : 1 ≤ l0.length ∧ l0.length ≤ 12
  · rw [if_pos c] at h
    obtain rfl := Option.some.inj h
    exact sorted_in A0 c0 l0 w hr0 c.1 c.2
  · rw [if_neg c] at h
    exact absurd h (by simp)
end

-- NOT PRINTED: function 90 (impl_Tank_90)

end Go.Proofs.Ytedkbaadbnpkoaa.PFnExactGroupLevels

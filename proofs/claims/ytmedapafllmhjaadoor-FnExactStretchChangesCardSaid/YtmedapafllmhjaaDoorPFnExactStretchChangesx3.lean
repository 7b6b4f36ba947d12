/- Lean functions of the Go functions that the law FnExactStretchChanges reaches, and the proofs that the calls come to what they say (made by program). -/
import Derived.Lib.OthersKept
import Derived.Test.YtmedapafllmhjaaDoorPFnExactStretchChangesx0
namespace Go.Proofs.YtmedapafllmhjaaDoor.PFnExactStretchChanges
open Go.RowKit Go.Proofs.YtmedapafllmhjaaDoorW.PrintWords Go.Proofs.YtmedapafllmhjaaDoorW.PrintLast Go.Proofs.YtmedapafllmhjaaDoorW.PrintMore
attribute [local go_sem] max2_int min2_int max_two min_two max_three min_three max_four min_four   -- for this text's walks alone
set_option linter.unusedVariables false
set_option linter.unusedSimpArgs false

/-! ### spec_loRun: function 36 -/
/-- where a state lies: a box of four rows -/
structure PA where
  g : Nat
  A5 : Option Addr
  c5 : Nat
  g8 : Nat
  c8 : Nat
  g14 : Nat
  c14 : Nat
  g18 : Nat
  c18 : Nat
  n : Nat
/-- what it holds -/
structure PS where
  lf : List Int
  fu : List Bool
  ch : List Int
  fi : List Int
/-- the blocks that are written -/
def PA.S (p : PA) (k : Nat) : Prop := k = p.g8 ∨ k = p.g14 ∨ k = p.g18
structure Pas (T b : Nat) (p : PA) (s : PS) (w : World) : Prop where
  box : w.heap[p.g]? = some (.cells #[.slice p.A5 p.n p.c5, .slice (some ⟨p.g8, 0, none⟩) p.n p.c8, .slice (some ⟨p.g14, 0, none⟩) (p.n + 1) p.c14, .slice (some ⟨p.g18, 0, none⟩) p.n p.c18] T (0, 0))
  lf : ∀ W, Kept w W p.S → Kd.C (Kd.int .i64) W p.A5 p.n s.lf
  r8 : Kd.R Kd.bool 4 w b (fun k => k = p.g8) (.slice (some ⟨p.g8, 0, none⟩) p.n p.c8) s.fu
  r14 : Kd.R (Kd.int .i64) 3 w b (fun k => k = p.g14) (.slice (some ⟨p.g14, 0, none⟩) (p.n + 1) p.c14) s.ch
  r18 : Kd.R (Kd.int .i64) 3 w b (fun k => k = p.g18) (.slice (some ⟨p.g18, 0, none⟩) p.n p.c18) s.fi
  a1 : p.g8 ≠ p.g14
  a2 : p.g8 ≠ p.g18
  a3 : p.g14 ≠ p.g18
  ag : ¬ p.S p.g
  hc : p.n ≤ p.c5
  hn : 1 ≤ p.n ∧ p.n ≤ 1000
def putS (s : PS) (i : Int) (full : Bool) : PS :=
  if rdOf false s.fu i = full then s else if full = true then { lf := s.lf, fu := s.fu.set i.toNat full, ch := s.ch.set (i + 1).toNat (wrap64 (rd s.ch (i + 1) - rd s.lf i)), fi := s.fi.set i.toNat (wrap64 (rd s.fi i + 1)) } else { lf := s.lf, fu := s.fu.set i.toNat full, ch := s.ch.set i.toNat (wrap64 (rd s.ch i + rd s.lf i)), fi := s.fi }
def passS (s : PS) (i : Int) (up : Bool) : PS := putS (putS s i (!up)) i up
/-- the locks k, k + 1, .. of m -/
def shipS (up : Bool) (n : Nat) : Nat → Nat → PS → PS
  | 0, _, s => s
  | m + 1, k, s => shipS up n m (k + 1) (passS s (if up = true then (k : Int) else (n : Int) - 1 - (k : Int)) up)
theorem okI {w : World} {base g n cap : Nat} {ok : Nat → Prop} {xs : List Int} (h : Kd.R (Kd.int .i64) 3 w base ok (.slice (some ⟨g, 0, none⟩) n cap) xs) : Kd.R (Kd.int .i64) 3 w base (fun k => k = g) (.slice (some ⟨g, 0, none⟩) n cap) xs :=
  Kd.R_of_own (enc := Value.int .i64) (h1 := fun _ => rfl) (by obtain ⟨e_, _⟩ := Kd.R_reads' h; subst e_; exact Kd.own_of_R (enc := Value.int .i64) (h1 := fun _ => rfl) h) (fun k hk => by simp [Value.ownBlock] at hk; exact hk.symm)
theorem okB {w : World} {base g n cap : Nat} {ok : Nat → Prop} {xs : List Bool} (h : Kd.R Kd.bool 4 w base ok (.slice (some ⟨g, 0, none⟩) n cap) xs) : Kd.R Kd.bool 4 w base (fun k => k = g) (.slice (some ⟨g, 0, none⟩) n cap) xs :=
  Kd.R_of_own (enc := Value.bool) (h1 := fun _ => rfl) (by obtain ⟨e_, _⟩ := Kd.R_reads' h; subst e_; exact Kd.own_of_R (enc := Value.bool) (h1 := fun _ => rfl) h) (fun k hk => by simp [Value.ownBlock] at hk; exact hk.symm)
theorem blockI {w : World} {base : Nat} {ok : Nat → Prop} {v : Value} {xs : List Int} (h : Kd.R (Kd.int .i64) 3 w base ok v xs) (h1 : 1 ≤ xs.length) : ∃ g cap cur, v = .slice (some ⟨g, 0, none⟩) xs.length cap ∧ base ≤ g ∧ w.heap[g]? = some (.cells cur 3 (0, 0)) := by
  obtain ⟨_, ⟨_, h0⟩ | ⟨g, cap, cur, hv, hg, hh, _⟩⟩ := Kd.own_of_R (enc := Value.int .i64) (h1 := fun _ => rfl) h
  · omega
  · exact ⟨g, cap, cur, hv, hg, hh⟩
theorem blockB {w : World} {base : Nat} {ok : Nat → Prop} {v : Value} {xs : List Bool} (h : Kd.R Kd.bool 4 w base ok v xs) (h1 : 1 ≤ xs.length) : ∃ g cap cur, v = .slice (some ⟨g, 0, none⟩) xs.length cap ∧ base ≤ g ∧ w.heap[g]? = some (.cells cur 4 (0, 0)) := by
  obtain ⟨_, ⟨_, h0⟩ | ⟨g, cap, cur, hv, hg, hh, _⟩⟩ := Kd.own_of_R (enc := Value.bool) (h1 := fun _ => rfl) h
  · omega
  · exact ⟨g, cap, cur, hv, hg, hh⟩
theorem hw_new0 (w : World) (o : Obj) : (w.alloc o).heap[w.heap.size]? = some o := by unfold World.alloc; exact Array.getElem?_push_size
theorem hw_new2 (w : World) (o p : Obj) : ((w.alloc o).alloc p).heap[w.heap.size]? = some o := blk_alloc (hw_new0 w o) p
theorem hw_new1 (w : World) (o p : Obj) : ((w.alloc o).alloc p).heap[w.heap.size + 1]? = some p := by have := hw_new0 (w.alloc o) p; rwa [World.size_alloc] at this
/-- the state at first -/
def newS (l : List Int) (m : List Bool) : PS := { lf := l, fu := m, ch := List.replicate (l.length + 1) (0 : Int), fi := List.replicate l.length (0 : Int) }
theorem putS_lf (s : PS) (i : Int) (b : Bool) : (putS s i b).lf = s.lf := by unfold putS; split; rfl; split <;> rfl
theorem passS_lf (s : PS) (i : Int) (b : Bool) : (passS s i b).lf = s.lf := by unfold passS; rw [putS_lf, putS_lf]
theorem shipS_lf (up : Bool) (n : Nat) : ∀ (m k : Nat) (s : PS), (shipS up n m k s).lf = s.lf
  | 0, _, _ => rfl
  | m + 1, k, s => by unfold shipS; rw [shipS_lf up n m, passS_lf]
section
variable {T b : Nat} {p : PA} {s : PS} {w : World}
theorem Pas.cells (h : Pas T b p s w) : w.cell? ⟨p.g, 0, none⟩ = some (.slice p.A5 p.n p.c5) ∧ w.cell? ⟨p.g, 1, none⟩ = some (.slice (some ⟨p.g8, 0, none⟩) p.n p.c8) ∧ w.cell? ⟨p.g, 2, none⟩ = some (.slice (some ⟨p.g14, 0, none⟩) (p.n + 1) p.c14) ∧ w.cell? ⟨p.g, 3, none⟩ = some (.slice (some ⟨p.g18, 0, none⟩) p.n p.c18) :=
  ⟨(blk_cell h.box 0).trans rfl, (blk_cell h.box 1).trans rfl, (blk_cell h.box 2).trans rfl, (blk_cell h.box 3).trans rfl⟩
theorem Pas.at5 (h : Pas T b p s w) (i : Int) (h0 : 0 ≤ i) (h1 : i < p.n) : ∃ ad, p.A5 = some ad ∧ w.cell? (ad.add i.toNat) = some (.int .i64 (rd s.lf i)) := Kd.at_int (h.lf w (Kept.refl _ _)) i h0 h1
theorem Pas.at8 (h : Pas T b p s w) (i : Int) (h0 : 0 ≤ i) (h1 : i < p.n) : w.cell? ⟨p.g8, i.toNat, none⟩ = some (.bool (rdOf false s.fu i)) ∧ w.frozen? ⟨p.g8, i.toNat, none⟩ = false := Kd.R_celln (enc := Value.bool) (h1 := fun _ => rfl) false h.r8 i h0 h1
theorem Pas.at14 (h : Pas T b p s w) (i : Int) (h0 : 0 ≤ i) (h1 : i < ((p.n + 1 : Nat) : Int)) : w.cell? ⟨p.g14, i.toNat, none⟩ = some (.int .i64 (rd s.ch i)) ∧ w.frozen? ⟨p.g14, i.toNat, none⟩ = false := Kd.R_celln (enc := Value.int .i64) (h1 := fun _ => rfl) (0 : Int) h.r14 i h0 h1
theorem Pas.at18 (h : Pas T b p s w) (i : Int) (h0 : 0 ≤ i) (h1 : i < p.n) : w.cell? ⟨p.g18, i.toNat, none⟩ = some (.int .i64 (rd s.fi i)) ∧ w.frozen? ⟨p.g18, i.toNat, none⟩ = false := Kd.R_celln (enc := Value.int .i64) (h1 := fun _ => rfl) (0 : Int) h.r18 i h0 h1
theorem Pas.len (h : Pas T b p s w) : s.fu.length = p.n ∧ s.ch.length = p.n + 1 ∧ s.fi.length = p.n := ⟨(Kd.R_reads' h.r8).1.symm, (Kd.R_reads' h.r14).1.symm, (Kd.R_reads' h.r18).1.symm⟩
theorem Pas.below (h : Pas T b p s w) {W : World} (hb : Below w.heap.size w W) : Pas T b p s W :=
  { h with box := blk_below h.box hb, lf := fun W' hk => h.lf W' ((Kept.of_below hb p.S).then_ hk (fun _ h => .inl h)), r8 := Kd.R_below h.r8 hb, r14 := Kd.R_below h.r14 hb, r18 := Kd.R_below h.r18 hb }
theorem Pas.drew (h : Pas T b p s w) : Pas T b p s w.drew := h.below (below_drew (Below.refl _ _))
theorem Pas.alloc (h : Pas T b p s w) (o : Obj) : Pas T b p s (w.alloc o) := h.below (below_alloc (Below.refl _ _) o)
/-- a block of the caller's own has been written -/
theorem Pas.far (h : Pas T b p s w) {g T' : Nat} {cs : Array Value} (hb : w.heap[g]? = some (.cells cs T' (0, 0))) (h4 : 4 ≠ T') (h3 : 3 ≠ T') (hT : T ≠ T') (hlf : ∀ W, Kept w W (fun k => p.S k ∨ k = g) → Kd.C (Kd.int .i64) W p.A5 p.n s.lf) (j : Nat) (u : Value) : Pas T b p s (w.setCell ⟨g, j, none⟩ u) :=
  { h with
    box := blk_far h.box (blk_ne h.box hb hT) u
    lf := fun W hk => hlf W (((Kept.refl w (fun k => p.S k ∨ k = g)).setCell (p := ⟨g, j, none⟩) (.inl (.inr rfl)) u).then_ hk (fun _ h => .inl (.inl h)))
    r8 := Kd.R_set h.r8 hb (fun q hq => by simp [Kd.bool, Kd.scalar] at hq; rw [hq]; exact h4) j u
    r14 := Kd.R_set h.r14 hb (fun q hq => by simp [Kd.int, Kd.scalar] at hq; rw [hq]; exact h3) j u
    r18 := Kd.R_set h.r18 hb (fun q hq => by simp [Kd.int, Kd.scalar] at hq; rw [hq]; exact h3) j u }
theorem Pas.put8 (h : Pas T b p s w) (i : Int) (x : Bool) : Pas T b p { s with fu := s.fu.set i.toNat x } (w.setCell ⟨p.g8, i.toNat, none⟩ (.bool x)) ∧ Kept w (w.setCell ⟨p.g8, i.toNat, none⟩ (.bool x)) p.S := by
  have P := Kd.R_putg (enc := Value.bool) (h1 := fun _ => rfl) h.r8 i x
  have K : Kept w (w.setCell ⟨p.g8, i.toNat, none⟩ (.bool x)) p.S := (Kept.refl w p.S).setCell (p := ⟨p.g8, i.toNat, none⟩) (.inl (.inl rfl)) _
  exact ⟨{ h with box := blk_kept h.box K h.ag, lf := fun W hk => h.lf W (K.then_ hk (fun _ h => .inl h)), r8 := P.1, r14 := Kd.R_grown h.r14 P.2 (fun k hk e => h.a1 (by have h_ := Option.some.inj e; omega)), r18 := Kd.R_grown h.r18 P.2 (fun k hk e => h.a2 (by have h_ := Option.some.inj e; omega)) }, K⟩
theorem Pas.put14 (h : Pas T b p s w) (i : Int) (x : Int) : Pas T b p { s with ch := s.ch.set i.toNat x } (w.setCell ⟨p.g14, i.toNat, none⟩ (.int .i64 x)) ∧ Kept w (w.setCell ⟨p.g14, i.toNat, none⟩ (.int .i64 x)) p.S := by
  have P := Kd.R_putg (enc := Value.int .i64) (h1 := fun _ => rfl) h.r14 i x
  have K : Kept w (w.setCell ⟨p.g14, i.toNat, none⟩ (.int .i64 x)) p.S := (Kept.refl w p.S).setCell (p := ⟨p.g14, i.toNat, none⟩) (.inl (.inr (.inl rfl))) _
  exact ⟨{ h with box := blk_kept h.box K h.ag, lf := fun W hk => h.lf W (K.then_ hk (fun _ h => .inl h)), r14 := P.1, r8 := Kd.R_grown h.r8 P.2 (fun k hk e => h.a1 (by have h_ := Option.some.inj e; omega)), r18 := Kd.R_grown h.r18 P.2 (fun k hk e => h.a3 (by have h_ := Option.some.inj e; omega)) }, K⟩
theorem Pas.put18 (h : Pas T b p s w) (i : Int) (x : Int) : Pas T b p { s with fi := s.fi.set i.toNat x } (w.setCell ⟨p.g18, i.toNat, none⟩ (.int .i64 x)) ∧ Kept w (w.setCell ⟨p.g18, i.toNat, none⟩ (.int .i64 x)) p.S := by
  have P := Kd.R_putg (enc := Value.int .i64) (h1 := fun _ => rfl) h.r18 i x
  have K : Kept w (w.setCell ⟨p.g18, i.toNat, none⟩ (.int .i64 x)) p.S := (Kept.refl w p.S).setCell (p := ⟨p.g18, i.toNat, none⟩) (.inl (.inr (.inr rfl))) _
  exact ⟨{ h with box := blk_kept h.box K h.ag, lf := fun W hk => h.lf W (K.then_ hk (fun _ h => .inl h)), r18 := P.1, r8 := Kd.R_grown h.r8 P.2 (fun k hk e => h.a2 (by have h_ := Option.some.inj e; omega)), r14 := Kd.R_grown h.r14 P.2 (fun k hk e => h.a3 (by have h_ := Option.some.inj e; omega)) }, K⟩
theorem Pas.notS (h : Pas T b p s w) {g T' : Nat} {cs : Array Value} (hb : w.heap[g]? = some (.cells cs T' (0, 0))) (h4 : 4 ≠ T') (h3 : 3 ≠ T') : ¬ p.S g := by
  rintro (e | e | e)
  · exact Kd.R_ne h.r8 hb h4 (by simp [Value.ownBlock, e])
  · exact Kd.R_ne h.r14 hb h3 (by simp [Value.ownBlock, e])
  · exact Kd.R_ne h.r18 hb h3 (by simp [Value.ownBlock, e])
theorem Pas.lower (h : Pas T b p s w) {b' : Nat} (hb : b' ≤ b) : Pas T b' p s w := { h with r8 := Kd.R_lower h.r8 hb, r14 := Kd.R_lower h.r14 hb, r18 := Kd.R_lower h.r18 hb }
theorem Pas.base (h : Pas T b p s w) : b ≤ p.g8 ∧ b ≤ p.g14 ∧ b ≤ p.g18 := ⟨Kd.R_base h.r8 p.g8 (by simp [Value.ownBlock]), Kd.R_base h.r14 p.g14 (by simp [Value.ownBlock]), Kd.R_base h.r18 p.g18 (by simp [Value.ownBlock])⟩
end
theorem apart_new {α β : Type} {d : Kd α} {d2 : Kd β} {e e2 : Nat} {W W2 : World} {b : Nat} {ok ok2 : Nat → Prop} {u v : Value} {xs : List α} {ys : List β} (h : Kd.R d e W b ok u xs) (h2 : Kd.R d2 e2 W2 W.heap.size ok2 v ys) : ∀ k, u.ownBlock = some k → v.ownBlock ≠ some k := by
  intro k hk hv
  have h1 := (Kd.R_bound h).1 k hk
  have h3 := Kd.R_base h2 k hv
  omega
set_option maxHeartbeats 8000000 in
set_option maxRecDepth 100000 in
theorem fill.calls (w0 : World) (p : PA) (s : PS) (i : Int) (w : World) (hP : Pas 54 w0.heap.size p s w) (hB : Below w0.heap.size w0 w) (h0 : 0 ≤ i) (h1 : i < (p.n : Int)) :
    Calls Tryd.prog 73 #[.pointer (some ⟨p.g, 0, none⟩), .int .i64 i] w fun e w' => e = .returned (.tuple #[]) ∧ Pas 54 w0.heap.size p (putS s i true) w' ∧ Below w0.heap.size w0 w' ∧ Kept w w' p.S := by
  obtain ⟨g, A5, c5, g8, c8, g14, c14, g18, c18, n⟩ := p
  have hn := hP.hn.2
  obtain ⟨b0, b1, b2, b3⟩ := hP.cells
  obtain ⟨h8, hf8⟩ := hP.at8 i h0 h1
  dsimp only at h1 hn b0 b1 b2 b3 h8 hf8 ⊢
  have q0 := eq_true h0
  have q1 := eq_true h1
  have q2 : (0 ≤ i + 1) = True := eq_true (by omega)
  have q3 : (i + 1 < (n : Int) + 1) = True := eq_true (by omega)
  have q4 : (i < (n : Int) + 1) = True := eq_true (by omega)
  have q5 : wrap64 (i + 1) = i + 1 := by unfold wrap64; omega
  by_cases hb : rdOf false s.fu i = true
  · have e1 : putS s i true = s := by unfold putS; rw [if_pos hb]
    rw [e1]
    rw [hb] at h8
    have HP := Aside0.mk hP
    have HB := Aside0.mk hB
    clear hP hB e1 hb b0 b2 b3 hf8
    go_enter Tryd.func73, Tryd.ntmps73
    go_wp2
    first | go_end0 | exact bodyPost_ret (v := .tuple #[]) (results_none rfl _ _ _) rfl ⟨rfl, HP.out, HB.out, Kept.refl _ _⟩ | go_ret
    all_goals exact ⟨rfl, HP.out, HB.out, Kept.refl _ _⟩
  · replace hb : rdOf false s.fu i = false := by cases hq : rdOf false s.fu i <;> simp_all
    rw [hb] at h8
    have hnb : ¬ rdOf false s.fu i = true := by rw [hb]; decide
    go_enter Tryd.func73, Tryd.ntmps73
    go_wp2
    have P1 := (hP.put8 i true).1
    have K1 := (hP.put8 i true).2
    have B1 := below_set (j := i.toNat) (v := .bool true) hB hP.base.1
    have e1 : putS s i true = { lf := s.lf, fu := s.fu.set i.toNat true, ch := s.ch.set (i + 1).toNat (wrap64 (rd s.ch (i + 1) - rd s.lf i)), fi := s.fi.set i.toNat (wrap64 (rd s.fi i + 1)) } := by unfold putS; rw [if_neg hnb]; rfl
    have E1 := Aside0.mk e1
    have HP0 := Aside0.mk hP
    clear e1 hnb hb h8 hf8 b0 b1 b2 b3 hP hB
    dsimp only at P1 K1 B1 ⊢
    generalize w.setCell ⟨g8, i.toNat, none⟩ (.bool true) = W1 at P1 K1 B1 ⊢
    obtain ⟨hx0, hx1, hx2, hx3⟩ := P1.drew.cells
    obtain ⟨hx14, hy14⟩ := P1.drew.at14 (i + 1) (by omega) (by dsimp only; omega)
    obtain ⟨ad, e5, hx5⟩ := P1.drew.at5 i (by omega) (by dsimp only; omega)
    dsimp only at hx0 hx1 hx2 hx3 hx14 hy14 e5 hx5
    subst e5
    replace P1 := Aside0.mk P1.drew
    replace B1 := Aside0.mk (below_drew B1)
    replace K1 := Aside0.mk K1.drew
    clear hx1 hx3
    refine start_ (n := 18) (S := fun w' => w'.cell? ⟨g, 0, none⟩ = some (.slice (some ad) n c5) ∧ w'.cell? ⟨g, 2, none⟩ = some (.slice (some ⟨g14, 0, none⟩) (n + 1) c14) ∧ w'.cell? ⟨g14, (i + 1).toNat, none⟩ = some (.int .i64 (rd s.ch (i + 1))) ∧ w'.cell? (ad.add i.toNat) = some (.int .i64 (rd s.lf i))) (ds := [17]) #[false, false, false, false, false, false, false, false, false, false, false, false, false, false, false, false, false, false] (by kernel_rfl) rfl rfl ⟨hx0, hx2, hx14, hx5⟩ (fun hHeld => ?_)
    generalize W1.drew = Wd at hx0 hx2 hx14 hx5 hy14 P1 B1 K1 hHeld ⊢
    refine pure_ (i := 0) (N := some 18) (v := ?_) (a' := ?_) #[true, false, false, false, false, false, false, false, false, false, false, false, false, false, false, false, false, false] rfl rfl (by kernel_rfl) (fun _ _ _ h => h) (Or.inl ⟨by rfl, ?_⟩) ?_ ?_
    rotate_left
    · intro w'
      go_simp
      with_reducible rfl
    rotate_left
    · simp only [Act.put, List.setIfInBounds_toArray, List.set_cons_zero, List.set_cons_succ, i64_w, i32_w]
      rfl
    refine pure_ (i := 1) (N := some 19) (v := ?_) (a' := ?_) #[true, true, false, false, false, false, false, false, false, false, false, false, false, false, false, false, false, false] rfl rfl (by kernel_rfl) (fun _ _ _ h => h) (Or.inl ⟨by rfl, ?_⟩) ?_ ?_
    rotate_left
    · intro w'
      go_simp
      with_reducible rfl
    rotate_left
    · simp only [Act.put, List.setIfInBounds_toArray, List.set_cons_zero, List.set_cons_succ, i64_w, i32_w]
      rfl
    refine pure_ (i := 2) (N := some 20) (v := ?_) (a' := ?_) #[true, true, true, false, false, false, false, false, false, false, false, false, false, false, false, false, false, false] rfl rfl (by kernel_rfl) (fun _ _ _ h => h) (Or.inl ⟨by rfl, ?_⟩) ?_ ?_
    rotate_left
    · intro w'
      go_simp
      with_reducible rfl
    rotate_left
    · simp only [Act.put, List.setIfInBounds_toArray, List.set_cons_zero, List.set_cons_succ, i64_w, i32_w]
      rfl
    refine pure_ (i := 4) (N := some 22) (v := ?_) (a' := ?_) #[true, true, true, false, true, false, false, false, false, false, false, false, false, false, false, false, false, false] rfl rfl (by kernel_rfl) (fun _ _ _ h => h) (Or.inl ⟨by rfl, ?_⟩) ?_ ?_
    rotate_left
    · intro w'
      go_simp
      with_reducible rfl
    rotate_left
    · simp only [Act.put, List.setIfInBounds_toArray, List.set_cons_zero, List.set_cons_succ, i64_w, i32_w]
      rfl
    refine pure_ (i := 5) (N := some 23) (v := ?_) (a' := ?_) #[true, true, true, false, true, true, false, false, false, false, false, false, false, false, false, false, false, false] rfl rfl (by kernel_rfl) (fun _ _ _ h => h) (Or.inl ⟨by rfl, ?_⟩) ?_ ?_
    rotate_left
    · intro w'
      go_simp
      with_reducible rfl
    rotate_left
    · simp only [Act.put, List.setIfInBounds_toArray, List.set_cons_zero, List.set_cons_succ, i64_w, i32_w]
      rfl
    refine pure_ (i := 8) (N := some 26) (v := ?_) (a' := ?_) #[true, true, true, false, true, true, false, false, true, false, false, false, false, false, false, false, false, false] rfl rfl (by kernel_rfl) (fun _ _ _ h => h) (Or.inl ⟨by rfl, ?_⟩) ?_ ?_
    rotate_left
    · intro w'
      go_simp
      with_reducible rfl
    rotate_left
    · simp only [Act.put, List.setIfInBounds_toArray, List.set_cons_zero, List.set_cons_succ, i64_w, i32_w]
      rfl
    refine pure_ (i := 9) (N := some 27) (v := ?_) (a' := ?_) #[true, true, true, false, true, true, false, false, true, true, false, false, false, false, false, false, false, false] rfl rfl (by kernel_rfl) (fun _ _ _ h => h) (Or.inl ⟨by rfl, ?_⟩) ?_ ?_
    rotate_left
    · intro w'
      go_simp
      with_reducible rfl
    rotate_left
    · simp only [Act.put, List.setIfInBounds_toArray, List.set_cons_zero, List.set_cons_succ, i64_w, i32_w]
      rfl
    refine pure_ (i := 10) (N := some 28) (v := ?_) (a' := ?_) #[true, true, true, false, true, true, false, false, true, true, true, false, false, false, false, false, false, false] rfl rfl (by kernel_rfl) (fun _ _ _ h => h) (Or.inl ⟨by rfl, ?_⟩) ?_ ?_
    rotate_left
    · intro w'
      go_simp
      with_reducible rfl
    rotate_left
    · simp only [Act.put, List.setIfInBounds_toArray, List.set_cons_zero, List.set_cons_succ, i64_w, i32_w]
      rfl
    refine pure_ (i := 12) (N := some 30) (v := ?_) (a' := ?_) #[true, true, true, false, true, true, false, false, true, true, true, false, true, false, false, false, false, false] rfl rfl (by kernel_rfl) (fun _ _ _ h => h) (Or.inl ⟨by rfl, ?_⟩) ?_ ?_
    rotate_left
    · intro w'
      go_simp
      with_reducible rfl
    rotate_left
    · simp only [Act.put, List.setIfInBounds_toArray, List.set_cons_zero, List.set_cons_succ, i64_w, i32_w]
      rfl
    refine take_ (i := 3) (N := some 21) (v := ?_) (a' := ?_) #[true, true, true, true, true, true, false, false, true, true, true, false, true, false, false, false, false, false] rfl rfl (by kernel_rfl) (fun _ _ _ h => h) (Or.inl ⟨by rfl, ?_⟩) hHeld ?_ ?_
    rotate_left
    · rintro w' ⟨s0, s1, s2, s3⟩
      go_simp
      with_reducible rfl
    rotate_left
    · simp only [Act.put, List.setIfInBounds_toArray, List.set_cons_zero, List.set_cons_succ, i64_w, i32_w]
      rfl
    refine pure_ (i := 6) (N := some 24) (v := ?_) (a' := ?_) #[true, true, true, true, true, true, true, false, true, true, true, false, true, false, false, false, false, false] rfl rfl (by kernel_rfl) (fun _ _ _ h => h) (Or.inl ⟨by rfl, ?_⟩) ?_ ?_
    rotate_left
    · intro w'
      go_simp
      with_reducible rfl
    rotate_left
    · simp only [Act.put, List.setIfInBounds_toArray, List.set_cons_zero, List.set_cons_succ, i64_w, i32_w]
      rfl
    refine take_ (i := 7) (N := some 25) (v := ?_) (a' := ?_) #[true, true, true, true, true, true, true, true, true, true, true, false, true, false, false, false, false, false] rfl rfl (by kernel_rfl) (fun _ _ _ h => h) (Or.inl ⟨by rfl, ?_⟩) hHeld ?_ ?_
    rotate_left
    · rintro w' ⟨s0, s1, s2, s3⟩
      go_simp
      with_reducible rfl
    rotate_left
    · simp only [Act.put, List.setIfInBounds_toArray, List.set_cons_zero, List.set_cons_succ, i64_w, i32_w]
      rfl
    refine take_ (i := 11) (N := some 29) (v := ?_) (a' := ?_) #[true, true, true, true, true, true, true, true, true, true, true, true, true, false, false, false, false, false] rfl rfl (by kernel_rfl) (fun _ _ _ h => h) (Or.inl ⟨by rfl, ?_⟩) hHeld ?_ ?_
    rotate_left
    · rintro w' ⟨s0, s1, s2, s3⟩
      go_simp
      with_reducible rfl
    rotate_left
    · simp only [Act.put, List.setIfInBounds_toArray, List.set_cons_zero, List.set_cons_succ, i64_w, i32_w]
      rfl
    refine pure_ (i := 13) (N := some 31) (v := ?_) (a' := ?_) #[true, true, true, true, true, true, true, true, true, true, true, true, true, true, false, false, false, false] rfl rfl (by kernel_rfl) (fun _ _ _ h => h) (Or.inl ⟨by rfl, ?_⟩) ?_ ?_
    rotate_left
    · intro w'
      go_simp
      with_reducible rfl
    rotate_left
    · simp only [Act.put, List.setIfInBounds_toArray, List.set_cons_zero, List.set_cons_succ, i64_w, i32_w]
      rfl
    refine take_ (i := 14) (N := some 32) (v := ?_) (a' := ?_) #[true, true, true, true, true, true, true, true, true, true, true, true, true, true, true, false, false, false] rfl rfl (by kernel_rfl) (fun _ _ _ h => h) (Or.inl ⟨by rfl, ?_⟩) hHeld ?_ ?_
    rotate_left
    · rintro w' ⟨s0, s1, s2, s3⟩
      go_simp
      with_reducible rfl
    rotate_left
    · simp only [Act.put, List.setIfInBounds_toArray, List.set_cons_zero, List.set_cons_succ, i64_w, i32_w]
      rfl
    refine pure_ (i := 15) (N := some 33) (v := ?_) (a' := ?_) #[true, true, true, true, true, true, true, true, true, true, true, true, true, true, true, true, false, false] rfl rfl (by kernel_rfl) (fun _ _ _ h => h) (Or.inl ⟨by rfl, ?_⟩) ?_ ?_
    rotate_left
    · intro w'
      go_simp
      with_reducible rfl
    rotate_left
    · simp only [Act.put, List.setIfInBounds_toArray, List.set_cons_zero, List.set_cons_succ, i64_w, i32_w]
      rfl
    refine pure_ (i := 16) (N := some 34) (v := ?_) (a' := ?_) #[true, true, true, true, true, true, true, true, true, true, true, true, true, true, true, true, true, false] rfl rfl (by kernel_rfl) (fun _ _ _ h => h) (Or.inl ⟨by rfl, ?_⟩) ?_ ?_
    rotate_left
    · intro w'
      go_simp
      with_reducible rfl
    rotate_left
    · simp only [Act.put, List.setIfInBounds_toArray, List.set_cons_zero, List.set_cons_succ, i64_w, i32_w]
      rfl
    refine last_ (i := 17) (N := none) #[true, true, true, true, true, true, true, true, true, true, true, true, true, true, true, true, true, true] rfl rfl (by kernel_rfl) (by decide) (fun K hK => ?_)
    refine skip_ (w1 := ?_) (by rfl) rfl ?_ ?_
    rotate_left
    · go_simp
      rfl
    refine hK.out _ _ ?_
    clear hK K
    refine done_ (by kernel_rfl) ?_
    replace P1 := P1.out
    replace B1 := B1.out
    replace K1 := K1.out
    clear hx0 hx2 hx14 hx5 hy14
    have P2 := (P1.put14 (i + 1) (wrap64 (rd s.ch (i + 1) - rd s.lf i))).1
    have K2 := K1.then_ (P1.put14 (i + 1) (wrap64 (rd s.ch (i + 1) - rd s.lf i))).2 (fun _ h => .inl h)
    have B2 := below_set (j := (i + 1).toNat) (v := .int .i64 (wrap64 (rd s.ch (i + 1) - rd s.lf i))) B1 P1.base.2.1
    clear P1 B1 K1
    dsimp only at P2 K2 B2
    generalize Wd.setCell ⟨g14, (i + 1).toNat, none⟩ (.int .i64 (wrap64 (rd s.ch (i + 1) - rd s.lf i))) = W2 at P2 K2 B2 ⊢
    obtain ⟨hx0, hx1, hx2, hx3⟩ := P2.cells
    obtain ⟨hx18, hy18⟩ := P2.at18 i (by omega) (by dsimp only; omega)
    dsimp only at hx0 hx1 hx2 hx3 hx18 hy18
    replace P2 := Aside0.mk P2
    replace B2 := Aside0.mk B2
    replace K2 := Aside0.mk K2
    clear hx0 hx1 hx2
    go_wp2
    go_end0
    rw [E1.out]
    exact ⟨rfl, (P2.out.put18 i (wrap64 (rd s.fi i + 1))).1, below_set (j := i.toNat) B2.out P2.out.base.2.2, K2.out.then_ (P2.out.put18 i (wrap64 (rd s.fi i + 1))).2 (fun _ h => .inl h)⟩
set_option maxHeartbeats 8000000 in
set_option maxRecDepth 100000 in
theorem empty.calls (w0 : World) (p : PA) (s : PS) (i : Int) (w : World) (hP : Pas 54 w0.heap.size p s w) (hB : Below w0.heap.size w0 w) (h0 : 0 ≤ i) (h1 : i < (p.n : Int)) :
    Calls Tryd.prog 72 #[.pointer (some ⟨p.g, 0, none⟩), .int .i64 i] w fun e w' => e = .returned (.tuple #[]) ∧ Pas 54 w0.heap.size p (putS s i false) w' ∧ Below w0.heap.size w0 w' ∧ Kept w w' p.S := by
  obtain ⟨g, A5, c5, g8, c8, g14, c14, g18, c18, n⟩ := p
  have hn := hP.hn.2
  obtain ⟨b0, b1, b2, b3⟩ := hP.cells
  obtain ⟨h8, hf8⟩ := hP.at8 i h0 h1
  dsimp only at h1 hn b0 b1 b2 b3 h8 hf8 ⊢
  have q0 := eq_true h0
  have q1 := eq_true h1
  have q2 : (0 ≤ i + 1) = True := eq_true (by omega)
  have q3 : (i + 1 < (n : Int) + 1) = True := eq_true (by omega)
  have q4 : (i < (n : Int) + 1) = True := eq_true (by omega)
  have q5 : wrap64 (i + 1) = i + 1 := by unfold wrap64; omega
  by_cases hb : rdOf false s.fu i = false
  · have e1 : putS s i false = s := by unfold putS; rw [if_pos hb]
    rw [e1]
    rw [hb] at h8
    have HP := Aside0.mk hP
    have HB := Aside0.mk hB
    clear hP hB e1 hb b0 b2 b3 hf8
    go_enter Tryd.func72, Tryd.ntmps72
    go_wp2
    first | go_end0 | exact bodyPost_ret (v := .tuple #[]) (results_none rfl _ _ _) rfl ⟨rfl, HP.out, HB.out, Kept.refl _ _⟩ | go_ret
    all_goals exact ⟨rfl, HP.out, HB.out, Kept.refl _ _⟩
  · replace hb : rdOf false s.fu i = true := by cases hq : rdOf false s.fu i <;> simp_all
    rw [hb] at h8
    have hnb : ¬ rdOf false s.fu i = false := by rw [hb]; decide
    go_enter Tryd.func72, Tryd.ntmps72
    go_wp2
    have P1 := (hP.put8 i false).1
    have K1 := (hP.put8 i false).2
    have B1 := below_set (j := i.toNat) (v := .bool false) hB hP.base.1
    have e1 : putS s i false = { lf := s.lf, fu := s.fu.set i.toNat false, ch := s.ch.set i.toNat (wrap64 (rd s.ch i + rd s.lf i)), fi := s.fi } := by unfold putS; rw [if_neg hnb]; rfl
    have E1 := Aside0.mk e1
    have HP0 := Aside0.mk hP
    clear e1 hnb hb h8 hf8 b0 b1 b2 b3 hP hB
    dsimp only at P1 K1 B1 ⊢
    generalize w.setCell ⟨g8, i.toNat, none⟩ (.bool false) = W1 at P1 K1 B1 ⊢
    obtain ⟨hx0, hx1, hx2, hx3⟩ := P1.drew.cells
    obtain ⟨hx14, hy14⟩ := P1.drew.at14 i (by omega) (by dsimp only; omega)
    obtain ⟨ad, e5, hx5⟩ := P1.drew.at5 i (by omega) (by dsimp only; omega)
    dsimp only at hx0 hx1 hx2 hx3 hx14 hy14 e5 hx5
    subst e5
    replace P1 := Aside0.mk P1.drew
    replace B1 := Aside0.mk (below_drew B1)
    replace K1 := Aside0.mk K1.drew
    clear hx1 hx3
    refine start_ (n := 17) (S := fun w' => w'.cell? ⟨g, 0, none⟩ = some (.slice (some ad) n c5) ∧ w'.cell? ⟨g, 2, none⟩ = some (.slice (some ⟨g14, 0, none⟩) (n + 1) c14) ∧ w'.cell? ⟨g14, i.toNat, none⟩ = some (.int .i64 (rd s.ch i)) ∧ w'.cell? (ad.add i.toNat) = some (.int .i64 (rd s.lf i))) (ds := [16]) #[false, false, false, false, false, false, false, false, false, false, false, false, false, false, false, false, false] (by kernel_rfl) rfl rfl ⟨hx0, hx2, hx14, hx5⟩ (fun hHeld => ?_)
    generalize W1.drew = Wd at hx0 hx2 hx14 hx5 hy14 P1 B1 K1 hHeld ⊢
    refine pure_ (i := 0) (N := some 17) (v := ?_) (a' := ?_) #[true, false, false, false, false, false, false, false, false, false, false, false, false, false, false, false, false] rfl rfl (by kernel_rfl) (fun _ _ _ h => h) (Or.inl ⟨by rfl, ?_⟩) ?_ ?_
    rotate_left
    · intro w'
      go_simp
      with_reducible rfl
    rotate_left
    · simp only [Act.put, List.setIfInBounds_toArray, List.set_cons_zero, List.set_cons_succ, i64_w, i32_w]
      rfl
    refine pure_ (i := 1) (N := some 18) (v := ?_) (a' := ?_) #[true, true, false, false, false, false, false, false, false, false, false, false, false, false, false, false, false] rfl rfl (by kernel_rfl) (fun _ _ _ h => h) (Or.inl ⟨by rfl, ?_⟩) ?_ ?_
    rotate_left
    · intro w'
      go_simp
      with_reducible rfl
    rotate_left
    · simp only [Act.put, List.setIfInBounds_toArray, List.set_cons_zero, List.set_cons_succ, i64_w, i32_w]
      rfl
    refine pure_ (i := 2) (N := some 19) (v := ?_) (a' := ?_) #[true, true, true, false, false, false, false, false, false, false, false, false, false, false, false, false, false] rfl rfl (by kernel_rfl) (fun _ _ _ h => h) (Or.inl ⟨by rfl, ?_⟩) ?_ ?_
    rotate_left
    · intro w'
      go_simp
      with_reducible rfl
    rotate_left
    · simp only [Act.put, List.setIfInBounds_toArray, List.set_cons_zero, List.set_cons_succ, i64_w, i32_w]
      rfl
    refine pure_ (i := 4) (N := some 21) (v := ?_) (a' := ?_) #[true, true, true, false, true, false, false, false, false, false, false, false, false, false, false, false, false] rfl rfl (by kernel_rfl) (fun _ _ _ h => h) (Or.inl ⟨by rfl, ?_⟩) ?_ ?_
    rotate_left
    · intro w'
      go_simp
      with_reducible rfl
    rotate_left
    · simp only [Act.put, List.setIfInBounds_toArray, List.set_cons_zero, List.set_cons_succ, i64_w, i32_w]
      rfl
    refine pure_ (i := 7) (N := some 24) (v := ?_) (a' := ?_) #[true, true, true, false, true, false, false, true, false, false, false, false, false, false, false, false, false] rfl rfl (by kernel_rfl) (fun _ _ _ h => h) (Or.inl ⟨by rfl, ?_⟩) ?_ ?_
    rotate_left
    · intro w'
      go_simp
      with_reducible rfl
    rotate_left
    · simp only [Act.put, List.setIfInBounds_toArray, List.set_cons_zero, List.set_cons_succ, i64_w, i32_w]
      rfl
    refine pure_ (i := 8) (N := some 25) (v := ?_) (a' := ?_) #[true, true, true, false, true, false, false, true, true, false, false, false, false, false, false, false, false] rfl rfl (by kernel_rfl) (fun _ _ _ h => h) (Or.inl ⟨by rfl, ?_⟩) ?_ ?_
    rotate_left
    · intro w'
      go_simp
      with_reducible rfl
    rotate_left
    · simp only [Act.put, List.setIfInBounds_toArray, List.set_cons_zero, List.set_cons_succ, i64_w, i32_w]
      rfl
    refine pure_ (i := 9) (N := some 26) (v := ?_) (a' := ?_) #[true, true, true, false, true, false, false, true, true, true, false, false, false, false, false, false, false] rfl rfl (by kernel_rfl) (fun _ _ _ h => h) (Or.inl ⟨by rfl, ?_⟩) ?_ ?_
    rotate_left
    · intro w'
      go_simp
      with_reducible rfl
    rotate_left
    · simp only [Act.put, List.setIfInBounds_toArray, List.set_cons_zero, List.set_cons_succ, i64_w, i32_w]
      rfl
    refine pure_ (i := 11) (N := some 28) (v := ?_) (a' := ?_) #[true, true, true, false, true, false, false, true, true, true, false, true, false, false, false, false, false] rfl rfl (by kernel_rfl) (fun _ _ _ h => h) (Or.inl ⟨by rfl, ?_⟩) ?_ ?_
    rotate_left
    · intro w'
      go_simp
      with_reducible rfl
    rotate_left
    · simp only [Act.put, List.setIfInBounds_toArray, List.set_cons_zero, List.set_cons_succ, i64_w, i32_w]
      rfl
    refine take_ (i := 3) (N := some 20) (v := ?_) (a' := ?_) #[true, true, true, true, true, false, false, true, true, true, false, true, false, false, false, false, false] rfl rfl (by kernel_rfl) (fun _ _ _ h => h) (Or.inl ⟨by rfl, ?_⟩) hHeld ?_ ?_
    rotate_left
    · rintro w' ⟨s0, s1, s2, s3⟩
      go_simp
      with_reducible rfl
    rotate_left
    · simp only [Act.put, List.setIfInBounds_toArray, List.set_cons_zero, List.set_cons_succ, i64_w, i32_w]
      rfl
    refine pure_ (i := 5) (N := some 22) (v := ?_) (a' := ?_) #[true, true, true, true, true, true, false, true, true, true, false, true, false, false, false, false, false] rfl rfl (by kernel_rfl) (fun _ _ _ h => h) (Or.inl ⟨by rfl, ?_⟩) ?_ ?_
    rotate_left
    · intro w'
      go_simp
      with_reducible rfl
    rotate_left
    · simp only [Act.put, List.setIfInBounds_toArray, List.set_cons_zero, List.set_cons_succ, i64_w, i32_w]
      rfl
    refine take_ (i := 6) (N := some 23) (v := ?_) (a' := ?_) #[true, true, true, true, true, true, true, true, true, true, false, true, false, false, false, false, false] rfl rfl (by kernel_rfl) (fun _ _ _ h => h) (Or.inl ⟨by rfl, ?_⟩) hHeld ?_ ?_
    rotate_left
    · rintro w' ⟨s0, s1, s2, s3⟩
      go_simp
      with_reducible rfl
    rotate_left
    · simp only [Act.put, List.setIfInBounds_toArray, List.set_cons_zero, List.set_cons_succ, i64_w, i32_w]
      rfl
    refine take_ (i := 10) (N := some 27) (v := ?_) (a' := ?_) #[true, true, true, true, true, true, true, true, true, true, true, true, false, false, false, false, false] rfl rfl (by kernel_rfl) (fun _ _ _ h => h) (Or.inl ⟨by rfl, ?_⟩) hHeld ?_ ?_
    rotate_left
    · rintro w' ⟨s0, s1, s2, s3⟩
      go_simp
      with_reducible rfl
    rotate_left
    · simp only [Act.put, List.setIfInBounds_toArray, List.set_cons_zero, List.set_cons_succ, i64_w, i32_w]
      rfl
    refine pure_ (i := 12) (N := some 29) (v := ?_) (a' := ?_) #[true, true, true, true, true, true, true, true, true, true, true, true, true, false, false, false, false] rfl rfl (by kernel_rfl) (fun _ _ _ h => h) (Or.inl ⟨by rfl, ?_⟩) ?_ ?_
    rotate_left
    · intro w'
      go_simp
      with_reducible rfl
    rotate_left
    · simp only [Act.put, List.setIfInBounds_toArray, List.set_cons_zero, List.set_cons_succ, i64_w, i32_w]
      rfl
    refine take_ (i := 13) (N := some 30) (v := ?_) (a' := ?_) #[true, true, true, true, true, true, true, true, true, true, true, true, true, true, false, false, false] rfl rfl (by kernel_rfl) (fun _ _ _ h => h) (Or.inl ⟨by rfl, ?_⟩) hHeld ?_ ?_
    rotate_left
    · rintro w' ⟨s0, s1, s2, s3⟩
      go_simp
      with_reducible rfl
    rotate_left
    · simp only [Act.put, List.setIfInBounds_toArray, List.set_cons_zero, List.set_cons_succ, i64_w, i32_w]
      rfl
    refine pure_ (i := 14) (N := some 31) (v := ?_) (a' := ?_) #[true, true, true, true, true, true, true, true, true, true, true, true, true, true, true, false, false] rfl rfl (by kernel_rfl) (fun _ _ _ h => h) (Or.inl ⟨by rfl, ?_⟩) ?_ ?_
    rotate_left
    · intro w'
      go_simp
      with_reducible rfl
    rotate_left
    · simp only [Act.put, List.setIfInBounds_toArray, List.set_cons_zero, List.set_cons_succ, i64_w, i32_w]
      rfl
    refine pure_ (i := 15) (N := some 32) (v := ?_) (a' := ?_) #[true, true, true, true, true, true, true, true, true, true, true, true, true, true, true, true, false] rfl rfl (by kernel_rfl) (fun _ _ _ h => h) (Or.inl ⟨by rfl, ?_⟩) ?_ ?_
    rotate_left
    · intro w'
      go_simp
      with_reducible rfl
    rotate_left
    · simp only [Act.put, List.setIfInBounds_toArray, List.set_cons_zero, List.set_cons_succ, i64_w, i32_w]
      rfl
    refine last_ (i := 16) (N := none) #[true, true, true, true, true, true, true, true, true, true, true, true, true, true, true, true, true] rfl rfl (by kernel_rfl) (by decide) (fun K hK => ?_)
    refine skip_ (w1 := ?_) (by rfl) rfl ?_ ?_
    rotate_left
    · go_simp
      rfl
    refine hK.out _ _ ?_
    clear hK K
    refine done_ (by kernel_rfl) ?_
    replace P1 := P1.out
    replace B1 := B1.out
    replace K1 := K1.out
    clear hx0 hx2 hx14 hx5 hy14
    have P2 := (P1.put14 i (wrap64 (rd s.ch i + rd s.lf i))).1
    have K2 := K1.then_ (P1.put14 i (wrap64 (rd s.ch i + rd s.lf i))).2 (fun _ h => .inl h)
    have B2 := below_set (j := i.toNat) (v := .int .i64 (wrap64 (rd s.ch i + rd s.lf i))) B1 P1.base.2.1
    clear P1 B1 K1
    dsimp only at P2 K2 B2
    generalize Wd.setCell ⟨g14, i.toNat, none⟩ (.int .i64 (wrap64 (rd s.ch i + rd s.lf i))) = W2 at P2 K2 B2 ⊢
    replace P2 := Aside0.mk P2
    replace B2 := Aside0.mk B2
    replace K2 := Aside0.mk K2
    go_wp2
    go_end0
    rw [E1.out]
    exact ⟨rfl, P2.out, B2.out, K2.out⟩
set_option maxHeartbeats 4000000 in
set_option maxRecDepth 100000 in
theorem spass.calls (w0 : World) (p : PA) (s : PS) (i : Int) (up : Bool) (w : World) (hP : Pas 54 w0.heap.size p s w) (hB : Below w0.heap.size w0 w) (h0 : 0 ≤ i) (h1 : i < (p.n : Int)) :
    Calls Tryd.prog 65 #[.pointer (some ⟨p.g, 0, none⟩), .int .i64 i, .bool up] w fun e w' => e = .returned (.tuple #[]) ∧ Pas 54 w0.heap.size p (passS s i up) w' ∧ Below w0.heap.size w0 w' ∧ Kept w w' p.S := by
  cases up with
  | true =>
    have hc := Aside0.mk (empty.calls w0 p s i w hP hB h0 h1)
    have hd := Aside0.mk (fun s' w' hP' hB' => fill.calls w0 p s' i w' hP' hB' h0 h1)
    clear hP hB h0 h1
    go_enter Tryd.func65, Tryd.ntmps65
    go_wp2_with (first | (go_at_call 72; (with_reducible refine hc.out.mono ?_); rintro e w1 ⟨rfl, p1, b1, k1⟩; have P1 := Aside0.mk p1; have B1 := Aside0.mk b1; have K1 := Aside0.mk k1; clear p1 b1 k1 hc) | (go_at_call 73; refine (hd.out _ _ P1.out B1.out).mono ?_; rintro e w2 ⟨rfl, p2, b2, k2⟩; have P2 := Aside0.mk p2; have B2 := Aside0.mk b2; have K2 := Aside0.mk (K1.out.then_ k2 (fun _ h => .inl h)); clear p2 b2 k2 hd))
    go_end0
    exact ⟨rfl, P2.out, B2.out, K2.out⟩
  | false =>
    have hc := Aside0.mk (fill.calls w0 p s i w hP hB h0 h1)
    have hd := Aside0.mk (fun s' w' hP' hB' => empty.calls w0 p s' i w' hP' hB' h0 h1)
    clear hP hB h0 h1
    go_enter Tryd.func65, Tryd.ntmps65
    go_wp2_with (first | (go_at_call 73; (with_reducible refine hc.out.mono ?_); rintro e w1 ⟨rfl, p1, b1, k1⟩; have P1 := Aside0.mk p1; have B1 := Aside0.mk b1; have K1 := Aside0.mk k1; clear p1 b1 k1 hc) | (go_at_call 72; refine (hd.out _ _ P1.out B1.out).mono ?_; rintro e w2 ⟨rfl, p2, b2, k2⟩; have P2 := Aside0.mk p2; have B2 := Aside0.mk b2; have K2 := Aside0.mk (K1.out.then_ k2 (fun _ h => .inl h)); clear p2 b2 k2 hd))
    go_end0
    exact ⟨rfl, P2.out, B2.out, K2.out⟩
set_option maxHeartbeats 4000000 in
set_option maxRecDepth 100000 in
theorem sship.calls (w0 : World) (p : PA) (s : PS) (up : Bool) (w : World) (hP : Pas 54 w0.heap.size p s w) (hB : Below w0.heap.size w0 w) :
    Calls Tryd.prog 52 #[.pointer (some ⟨p.g, 0, none⟩), .bool up] w fun e w' => e = .returned (.tuple #[]) ∧ Pas 54 w0.heap.size p (shipS up p.n p.n 0 s) w' ∧ Below w0.heap.size w0 w' ∧ Kept w w' p.S := by
  obtain ⟨hx0, _, _, _⟩ := hP.cells
  have hn := hP.hn.2
  have HP := Aside0.mk hP
  have HB := Aside0.mk hB
  clear hP hB
  obtain ⟨g, A5, c5, g8, c8, g14, c14, g18, c18, n⟩ := p
  dsimp only at hx0 hn ⊢
  go_enter Tryd.func52, Tryd.ntmps52
  go_wp2
  go_loopg [5] n (fun gg v5 wr => ∃ k : Nat, v5 = .int .i64 (k : Int) ∧ Aside0 (k ≤ n) ∧ Aside0 (n - k ≤ gg) ∧ Aside0 (∃ s', Pas 54 w0.heap.size ⟨g, A5, c5, g8, c8, g14, c14, g18, c18, n⟩ s' wr ∧ shipS up n (n - k) k s' = shipS up n n 0 s) ∧ Aside0 (Below w0.heap.size w0 wr) ∧ Aside0 (Kept w wr (PA.S ⟨g, A5, c5, g8, c8, g14, c14, g18, c18, n⟩)))
  case atStart => exact ⟨0, rfl, ⟨by omega⟩, ⟨by omega⟩, ⟨s, HP.out, rfl⟩, HB, ⟨Kept.refl _ _⟩⟩
  case round =>
    clear HP HB hx0
    obtain ⟨k, rfl, HK, HG, HS, HB, HKK⟩ := hrel
    obtain ⟨s', hP, hE⟩ := HS.out
    by_cases hlt : k < n
    · have c1 : decide ((k : Int) < (n : Int)) = true := decide_eq_true (by omega)
      have c3 : decide (k < n) = true := decide_eq_true (by omega)
      have HL := Aside0.mk hlt
      obtain ⟨hx0, _, _, _⟩ := hP.cells
      dsimp only at hx0
      have HE := Aside0.mk hE
      have e2 : n - k = (n - (k + 1)) + 1 := by omega
      rw [e2] at hE
      cases up with
      | true =>
        have hc := Aside0.mk (spass.calls w0 ⟨g, A5, c5, g8, c8, g14, c14, g18, c18, n⟩ s' (k : Int) true wr hP HB.out (by omega) (by dsimp only; omega))
        have HE2 := Aside0.mk (show shipS true n (n - (k + 1)) (k + 1) (passS s' (k : Int) true) = shipS true n n 0 s from hE)
        clear hE hP HS e2
        go_wp2_with (go_at_call 65; refine hc.out.mono ?_; rintro e w1 ⟨rfl, p1, b1, k1⟩; have P1 := Aside0.mk p1; have B1 := Aside0.mk b1; have K1 := Aside0.mk (HKK.out.then_ k1 (fun _ h => .inl h)); clear p1 b1 k1 hc)
        go_roundg (n - (k + 1))
        case measure => have := HG.out; have := HL.out; omega
        case rel => exact ⟨k + 1, by go_num, ⟨by have := HL.out; omega⟩, ⟨by omega⟩, ⟨_, P1.out, HE2.out⟩, B1, K1⟩
      | false =>
        have hc := Aside0.mk (spass.calls w0 ⟨g, A5, c5, g8, c8, g14, c14, g18, c18, n⟩ s' ((n : Int) - 1 - (k : Int)) false wr hP HB.out (by omega) (by dsimp only; omega))
        have HE2 := Aside0.mk (show shipS false n (n - (k + 1)) (k + 1) (passS s' ((n : Int) - 1 - (k : Int)) false) = shipS false n n 0 s from hE)
        clear hE hP HS e2
        go_wp2_with (go_at_call 65; refine hc.out.mono ?_; rintro e w1 ⟨rfl, p1, b1, k1⟩; have P1 := Aside0.mk p1; have B1 := Aside0.mk b1; have K1 := Aside0.mk (HKK.out.then_ k1 (fun _ h => .inl h)); clear p1 b1 k1 hc)
        go_roundg (n - (k + 1))
        case measure => have := HG.out; have := HL.out; omega
        case rel => exact ⟨k + 1, by go_num, ⟨by have := HL.out; omega⟩, ⟨by omega⟩, ⟨_, P1.out, HE2.out⟩, B1, K1⟩
    · have c1 : decide ((k : Int) < (n : Int)) = false := decide_eq_false (by omega)
      have c3 : decide (k < n) = false := decide_eq_false (by omega)
      have hk : k = n := by have := HK.out; omega
      have e2 : n - k = 0 := by omega
      rw [e2] at hE
      have HE := Aside0.mk (show s' = shipS up n n 0 s from hE)
      have HP := Aside0.mk hP
      clear hE hP HS e2 hk
      go_wp2
      go_end0
      exact ⟨rfl, by rw [← HE.out]; exact HP.out, HB.out, HKK.out⟩
theorem loNew_op2 : (opsOf Tryd.f51 2)[2]? = some { dst := (some 9), op := (Op.buildSlice 24 0 #[]), type := 24, pos := "l8_lock.go:38", after := #[], guard := none } := by kernel_rfl
theorem loNew_op11 : (opsOf Tryd.f51 2)[11]? = some { dst := (some 18), op := (Op.build 54 #[(0, (Operand.tmp 8)), (1, (Operand.tmp 12)), (2, (Operand.tmp 15)), (3, (Operand.tmp 17))]), type := 54, pos := "l8_lock.go:38", after := #[{ on := 1, ground := Ground.data }, { on := 5, ground := Ground.data }, { on := 8, ground := Ground.data }, { on := 10, ground := Ground.data }], guard := none } := by kernel_rfl
theorem loNew_op12 : (opsOf Tryd.f51 2)[12]? = some { dst := (some 19), op := (Op.box 54 (Operand.tmp 18)), type := 55, pos := "l8_lock.go:38", after := #[{ on := 11, ground := Ground.data }], guard := none } := by kernel_rfl
theorem loNew_op13 : (opsOf Tryd.f51 2)[13]? = some { dst := (some 2), op := (Op.assign (Operand.tmp 19)), type := 55, pos := "l8_lock.go:38", after := #[{ on := 12, ground := Ground.data }, { on := 5, ground := Ground.chain }, { on := 0, ground := Ground.phase }, { on := 1, ground := Ground.phase }, { on := 2, ground := Ground.phase }, { on := 3, ground := Ground.phase }, { on := 4, ground := Ground.phase }, { on := 5, ground := Ground.phase }, { on := 6, ground := Ground.phase }, { on := 7, ground := Ground.phase }, { on := 8, ground := Ground.phase }, { on := 9, ground := Ground.phase }, { on := 10, ground := Ground.phase }, { on := 11, ground := Ground.phase }, { on := 12, ground := Ground.phase }], guard := none } := by kernel_rfl
set_option maxHeartbeats 4000000 in
set_option maxRecDepth 100000 in
theorem loNew_region (A0_0 : Option Addr) (c0_0 : Nat) (l0_0 : List Int) (A0_1 : Option Addr) (c0_1 : Nat) (l0_1 : List Bool) (gb : Nat) (w : World) (Q : Exit → Act → World → Prop) (hQ : ∀ c a d v W, Q (.panic c) (a.put d v) W → Q (.panic c) a W) (hr0 : Kd.C (Kd.int .i64) w A0_0 l0_0.length l0_0) (hc0 : l0_0.length ≤ c0_0) (hr1 : Kd.C Kd.bool w A0_1 l0_1.length l0_1) (hc1 : l0_1.length ≤ c0_1) (hl0 : l0_0.length ≤ 1000) (hl1 : l0_1.length ≤ 1000) (BK : w.heap[gb]? = some (.cells #[.slice A0_0 l0_0.length c0_0, .slice A0_1 l0_1.length c0_1] 30 (0, 0)))
    (h_2_5_8_10 : ∀ (v9 v12 v15 v17 : Value) (W : World), Go.RowKit.Below w.heap.size w W → Kd.R Kd.bool 4 W w.heap.size (fun _ => True) v12 l0_1 → Kd.R (Kd.int .i64) 3 W w.heap.size (fun _ => True) v15 (List.replicate (l0_0.length + 1) (0 : Int)) → Kd.R (Kd.int .i64) 3 W w.heap.size (fun _ => True) v17 (List.replicate l0_0.length (0 : Int)) → (∀ k, v15.ownBlock = some k → v17.ownBlock ≠ some k) → wpAnyLast Tryd.prog .any (opsOf Tryd.f51 2) Q (fun w' : World => w'.cell? ⟨gb, 0, none⟩ = some (.slice A0_0 l0_0.length c0_0) ∧ w'.cell? ⟨gb, 1, none⟩ = some (.slice A0_1 l0_1.length c0_1)) [] 3 #[true, true, true, true, true, true, true, true, true, true, true, false, false, false] { tmps := #[.agg #[.slice A0_0 l0_0.length c0_0, .slice A0_1 l0_1.length c0_1], .pointer (some ⟨gb, 0, none⟩), .pointer none, .int .i64 (l0_0.length : Int), .pointer (some ⟨gb, 0, none⟩), .slice A0_0 l0_0.length c0_0, .int .i64 (l0_0.length : Int), .pointer (some ⟨gb, 0, none⟩), .slice A0_0 l0_0.length c0_0, v9, .pointer (some ⟨gb, 1, none⟩), .slice A0_1 l0_1.length c0_1, v12, .int .i64 (l0_0.length : Int), .int .i64 ((l0_0.length : Int) + 1), v15, .int .i64 (l0_0.length : Int), v17, undef, undef], defers := [] } W)
    (W : World) (HB : Go.RowKit.Below w.heap.size w W) : wpAnyLast Tryd.prog .any (opsOf Tryd.f51 2) Q (fun w' : World => w'.cell? ⟨gb, 0, none⟩ = some (.slice A0_0 l0_0.length c0_0) ∧ w'.cell? ⟨gb, 1, none⟩ = some (.slice A0_1 l0_1.length c0_1)) [] 7 #[true, true, false, true, true, false, true, true, false, true, false, false, false, false] { tmps := #[.agg #[.slice A0_0 l0_0.length c0_0, .slice A0_1 l0_1.length c0_1], .pointer (some ⟨gb, 0, none⟩), .pointer none, .int .i64 (l0_0.length : Int), .pointer (some ⟨gb, 0, none⟩), .slice A0_0 l0_0.length c0_0, .int .i64 (l0_0.length : Int), .pointer (some ⟨gb, 0, none⟩), .slice A0_0 l0_0.length c0_0, undef, .pointer (some ⟨gb, 1, none⟩), .slice A0_1 l0_1.length c0_1, undef, .int .i64 (l0_0.length : Int), .int .i64 ((l0_0.length : Int) + 1), undef, .int .i64 (l0_0.length : Int), undef, undef, undef], defers := [] } W := by
  have h_2_5_8 : ∀ (v9 v12 v15 : Value) (W : World), Go.RowKit.Below w.heap.size w W → Kd.R Kd.bool 4 W w.heap.size (fun _ => True) v12 l0_1 → Kd.R (Kd.int .i64) 3 W w.heap.size (fun _ => True) v15 (List.replicate (l0_0.length + 1) (0 : Int)) → wpAnyLast Tryd.prog .any (opsOf Tryd.f51 2) Q (fun w' : World => w'.cell? ⟨gb, 0, none⟩ = some (.slice A0_0 l0_0.length c0_0) ∧ w'.cell? ⟨gb, 1, none⟩ = some (.slice A0_1 l0_1.length c0_1)) [] 4 #[true, true, true, true, true, true, true, true, true, true, false, false, false, false] { tmps := #[.agg #[.slice A0_0 l0_0.length c0_0, .slice A0_1 l0_1.length c0_1], .pointer (some ⟨gb, 0, none⟩), .pointer none, .int .i64 (l0_0.length : Int), .pointer (some ⟨gb, 0, none⟩), .slice A0_0 l0_0.length c0_0, .int .i64 (l0_0.length : Int), .pointer (some ⟨gb, 0, none⟩), .slice A0_0 l0_0.length c0_0, v9, .pointer (some ⟨gb, 1, none⟩), .slice A0_1 l0_1.length c0_1, v12, .int .i64 (l0_0.length : Int), .int .i64 ((l0_0.length : Int) + 1), v15, .int .i64 (l0_0.length : Int), undef, undef, undef], defers := [] } W := by
    intro v9 v12 v15 W HB O5 O8
    refine wpAnyLast_ready (rs := [10]) (by kernel_rfl) (by simp) (AllReadyL.cons (i := 10) rfl (by decide) (fun K hK => ?a10) AllReadyL.nil)
    case a10 =>
      refine Kd.R_make_step (Kd.int .i64) (w0 := W) W.heap.size 3 rfl (N := 17) rfl 23 _ _ rfl (l0_0.length : Int) rfl rfl Tryd.underlying23 (.int .i64 0) 8 info3 rfl (by decide) (by omega) (0 : Int) (ok := fun _ => True) (okp := fun _ => True) rfl (fun _ hk => hk) trivial (by omega) (by omega) (Go.RowKit.Below.refl _ _) (Nat.le_refl _) ?_
      intro v17 W2 ho hb hg_ hn_
      rw [show ((l0_0.length : Int)).toNat = l0_0.length by omega] at ho
      have HB2 := below_then HB HB.size hb
      refine hK.out _ _ ⟨(blk_cell (blk_below BK HB2) 0).trans rfl, (blk_cell (blk_below BK HB2) 1).trans rfl⟩ (fun _ => ?_)
      refine norm_ (a' := { tmps := #[.agg #[.slice A0_0 l0_0.length c0_0, .slice A0_1 l0_1.length c0_1], .pointer (some ⟨gb, 0, none⟩), .pointer none, .int .i64 (l0_0.length : Int), .pointer (some ⟨gb, 0, none⟩), .slice A0_0 l0_0.length c0_0, .int .i64 (l0_0.length : Int), .pointer (some ⟨gb, 0, none⟩), .slice A0_0 l0_0.length c0_0, v9, .pointer (some ⟨gb, 1, none⟩), .slice A0_1 l0_1.length c0_1, v12, .int .i64 (l0_0.length : Int), .int .i64 ((l0_0.length : Int) + 1), v15, .int .i64 (l0_0.length : Int), v17, undef, undef], defers := [] }) (by show Act.put _ (some 17) _ = _; simp only [Act.put, List.setIfInBounds_toArray, List.set_cons_zero, List.set_cons_succ]) ?_
      (try simp only [List.setIfInBounds_toArray, List.set_cons_zero, List.set_cons_succ])
      exact h_2_5_8_10 v9 v12 v15 v17 W2 HB2 (Kd.R_below O5 hb) (Kd.R_below O8 hb) (Kd.R_lower ho HB.size) (apart_new O8 ho)
  have h_2_5_10 : ∀ (v9 v12 v17 : Value) (W : World), Go.RowKit.Below w.heap.size w W → Kd.R Kd.bool 4 W w.heap.size (fun _ => True) v12 l0_1 → Kd.R (Kd.int .i64) 3 W w.heap.size (fun _ => True) v17 (List.replicate l0_0.length (0 : Int)) → wpAnyLast Tryd.prog .any (opsOf Tryd.f51 2) Q (fun w' : World => w'.cell? ⟨gb, 0, none⟩ = some (.slice A0_0 l0_0.length c0_0) ∧ w'.cell? ⟨gb, 1, none⟩ = some (.slice A0_1 l0_1.length c0_1)) [] 4 #[true, true, true, true, true, true, true, true, false, true, true, false, false, false] { tmps := #[.agg #[.slice A0_0 l0_0.length c0_0, .slice A0_1 l0_1.length c0_1], .pointer (some ⟨gb, 0, none⟩), .pointer none, .int .i64 (l0_0.length : Int), .pointer (some ⟨gb, 0, none⟩), .slice A0_0 l0_0.length c0_0, .int .i64 (l0_0.length : Int), .pointer (some ⟨gb, 0, none⟩), .slice A0_0 l0_0.length c0_0, v9, .pointer (some ⟨gb, 1, none⟩), .slice A0_1 l0_1.length c0_1, v12, .int .i64 (l0_0.length : Int), .int .i64 ((l0_0.length : Int) + 1), undef, .int .i64 (l0_0.length : Int), v17, undef, undef], defers := [] } W := by
    intro v9 v12 v17 W HB O5 O10
    refine wpAnyLast_ready (rs := [8]) (by kernel_rfl) (by simp) (AllReadyL.cons (i := 8) rfl (by decide) (fun K hK => ?a8) AllReadyL.nil)
    case a8 =>
      refine Kd.R_make_step (Kd.int .i64) (w0 := W) W.heap.size 3 rfl (N := 15) rfl 23 _ _ rfl ((l0_0.length : Int) + 1) rfl rfl Tryd.underlying23 (.int .i64 0) 8 info3 rfl (by decide) (by omega) (0 : Int) (ok := fun _ => True) (okp := fun _ => True) rfl (fun _ hk => hk) trivial (by omega) (by omega) (Go.RowKit.Below.refl _ _) (Nat.le_refl _) ?_
      intro v15 W2 ho hb hg_ hn_
      rw [show (((l0_0.length : Int) + 1)).toNat = l0_0.length + 1 by omega] at ho
      have HB2 := below_then HB HB.size hb
      refine hK.out _ _ ⟨(blk_cell (blk_below BK HB2) 0).trans rfl, (blk_cell (blk_below BK HB2) 1).trans rfl⟩ (fun _ => ?_)
      refine norm_ (a' := { tmps := #[.agg #[.slice A0_0 l0_0.length c0_0, .slice A0_1 l0_1.length c0_1], .pointer (some ⟨gb, 0, none⟩), .pointer none, .int .i64 (l0_0.length : Int), .pointer (some ⟨gb, 0, none⟩), .slice A0_0 l0_0.length c0_0, .int .i64 (l0_0.length : Int), .pointer (some ⟨gb, 0, none⟩), .slice A0_0 l0_0.length c0_0, v9, .pointer (some ⟨gb, 1, none⟩), .slice A0_1 l0_1.length c0_1, v12, .int .i64 (l0_0.length : Int), .int .i64 ((l0_0.length : Int) + 1), v15, .int .i64 (l0_0.length : Int), v17, undef, undef], defers := [] }) (by show Act.put _ (some 15) _ = _; simp only [Act.put, List.setIfInBounds_toArray, List.set_cons_zero, List.set_cons_succ]) ?_
      (try simp only [List.setIfInBounds_toArray, List.set_cons_zero, List.set_cons_succ])
      exact h_2_5_8_10 v9 v12 v15 v17 W2 HB2 (Kd.R_below O5 hb) (Kd.R_lower ho HB.size) (Kd.R_below O10 hb) (fun k h1 h2 => apart_new O10 ho k h2 h1)
  have h_2_8_10 : ∀ (v9 v15 v17 : Value) (W : World), Go.RowKit.Below w.heap.size w W → Kd.R Kd.bool 4 W w.heap.size (fun _ => True) v9 ([] : List Bool) → Kd.R (Kd.int .i64) 3 W w.heap.size (fun _ => True) v15 (List.replicate (l0_0.length + 1) (0 : Int)) → Kd.R (Kd.int .i64) 3 W w.heap.size (fun _ => True) v17 (List.replicate l0_0.length (0 : Int)) → (∀ k, v15.ownBlock = some k → v17.ownBlock ≠ some k) → wpAnyLast Tryd.prog .any (opsOf Tryd.f51 2) Q (fun w' : World => w'.cell? ⟨gb, 0, none⟩ = some (.slice A0_0 l0_0.length c0_0) ∧ w'.cell? ⟨gb, 1, none⟩ = some (.slice A0_1 l0_1.length c0_1)) [] 4 #[true, true, true, true, true, false, true, true, true, true, true, false, false, false] { tmps := #[.agg #[.slice A0_0 l0_0.length c0_0, .slice A0_1 l0_1.length c0_1], .pointer (some ⟨gb, 0, none⟩), .pointer none, .int .i64 (l0_0.length : Int), .pointer (some ⟨gb, 0, none⟩), .slice A0_0 l0_0.length c0_0, .int .i64 (l0_0.length : Int), .pointer (some ⟨gb, 0, none⟩), .slice A0_0 l0_0.length c0_0, v9, .pointer (some ⟨gb, 1, none⟩), .slice A0_1 l0_1.length c0_1, undef, .int .i64 (l0_0.length : Int), .int .i64 ((l0_0.length : Int) + 1), v15, .int .i64 (l0_0.length : Int), v17, undef, undef], defers := [] } W := by
    intro v9 v15 v17 W HB O2 O8 O10 N8_10
    refine wpAnyLast_ready (rs := [5]) (by kernel_rfl) (by simp) (AllReadyL.cons (i := 5) rfl (by decide) (fun K hK => ?a5) AllReadyL.nil)
    case a5 =>
      refine Kd.R_append_rows_step Kd.bool (w0 := w) w.heap.size rfl (.tmp 9) (.tmp 11) 24 4 (.bool false) 1 rfl Tryd.underlying24 info4 rfl (by decide) (by omega) v9 [] l0_1 A0_1 l0_1.length c0_1 (fun _ => True) (fun _ => False) rfl rfl O2 (Kd.C_below hr1 HB) (fun _ _ h => h) (fun _ h => h.elim) (fun _ _ => trivial) HB HB.size (by simp; omega) ?_
      intro v12 W2 ho hb hg_ hn_
      rw [List.nil_append] at ho
      have HB2 := hb
      refine hK.out _ _ ⟨(blk_cell (blk_below BK HB2) 0).trans rfl, (blk_cell (blk_below BK HB2) 1).trans rfl⟩ (fun _ => ?_)
      refine norm_ (a' := { tmps := #[.agg #[.slice A0_0 l0_0.length c0_0, .slice A0_1 l0_1.length c0_1], .pointer (some ⟨gb, 0, none⟩), .pointer none, .int .i64 (l0_0.length : Int), .pointer (some ⟨gb, 0, none⟩), .slice A0_0 l0_0.length c0_0, .int .i64 (l0_0.length : Int), .pointer (some ⟨gb, 0, none⟩), .slice A0_0 l0_0.length c0_0, v9, .pointer (some ⟨gb, 1, none⟩), .slice A0_1 l0_1.length c0_1, v12, .int .i64 (l0_0.length : Int), .int .i64 ((l0_0.length : Int) + 1), v15, .int .i64 (l0_0.length : Int), v17, undef, undef], defers := [] }) (by show Act.put _ (some 12) _ = _; simp only [Act.put, List.setIfInBounds_toArray, List.set_cons_zero, List.set_cons_succ]) ?_
      (try simp only [List.setIfInBounds_toArray, List.set_cons_zero, List.set_cons_succ])
      exact h_2_5_8_10 v9 v12 v15 v17 W2 HB2 ho (Kd.R_over O8 O2 (fun q hq => by simp [Kd.int, Kd.bool, Kd.scalar] at hq; rw [hq]; decide) hg_) (Kd.R_over O10 O2 (fun q hq => by simp [Kd.int, Kd.bool, Kd.scalar] at hq; rw [hq]; decide) hg_) N8_10
  have h_2_5 : ∀ (v9 v12 : Value) (W : World), Go.RowKit.Below w.heap.size w W → Kd.R Kd.bool 4 W w.heap.size (fun _ => True) v12 l0_1 → wpAnyLast Tryd.prog .any (opsOf Tryd.f51 2) Q (fun w' : World => w'.cell? ⟨gb, 0, none⟩ = some (.slice A0_0 l0_0.length c0_0) ∧ w'.cell? ⟨gb, 1, none⟩ = some (.slice A0_1 l0_1.length c0_1)) [] 5 #[true, true, true, true, true, true, true, true, false, true, false, false, false, false] { tmps := #[.agg #[.slice A0_0 l0_0.length c0_0, .slice A0_1 l0_1.length c0_1], .pointer (some ⟨gb, 0, none⟩), .pointer none, .int .i64 (l0_0.length : Int), .pointer (some ⟨gb, 0, none⟩), .slice A0_0 l0_0.length c0_0, .int .i64 (l0_0.length : Int), .pointer (some ⟨gb, 0, none⟩), .slice A0_0 l0_0.length c0_0, v9, .pointer (some ⟨gb, 1, none⟩), .slice A0_1 l0_1.length c0_1, v12, .int .i64 (l0_0.length : Int), .int .i64 ((l0_0.length : Int) + 1), undef, .int .i64 (l0_0.length : Int), undef, undef, undef], defers := [] } W := by
    intro v9 v12 W HB O5
    refine wpAnyLast_ready (rs := [8, 10]) (by kernel_rfl) (by simp) (AllReadyL.cons (i := 8) rfl (by decide) (fun K hK => ?a8) (AllReadyL.cons (i := 10) rfl (by decide) (fun K hK => ?a10) AllReadyL.nil))
    case a8 =>
      refine Kd.R_make_step (Kd.int .i64) (w0 := W) W.heap.size 3 rfl (N := 15) rfl 23 _ _ rfl ((l0_0.length : Int) + 1) rfl rfl Tryd.underlying23 (.int .i64 0) 8 info3 rfl (by decide) (by omega) (0 : Int) (ok := fun _ => True) (okp := fun _ => True) rfl (fun _ hk => hk) trivial (by omega) (by omega) (Go.RowKit.Below.refl _ _) (Nat.le_refl _) ?_
      intro v15 W2 ho hb hg_ hn_
      rw [show (((l0_0.length : Int) + 1)).toNat = l0_0.length + 1 by omega] at ho
      have HB2 := below_then HB HB.size hb
      refine hK.out _ _ ⟨(blk_cell (blk_below BK HB2) 0).trans rfl, (blk_cell (blk_below BK HB2) 1).trans rfl⟩ (fun _ => ?_)
      refine norm_ (a' := { tmps := #[.agg #[.slice A0_0 l0_0.length c0_0, .slice A0_1 l0_1.length c0_1], .pointer (some ⟨gb, 0, none⟩), .pointer none, .int .i64 (l0_0.length : Int), .pointer (some ⟨gb, 0, none⟩), .slice A0_0 l0_0.length c0_0, .int .i64 (l0_0.length : Int), .pointer (some ⟨gb, 0, none⟩), .slice A0_0 l0_0.length c0_0, v9, .pointer (some ⟨gb, 1, none⟩), .slice A0_1 l0_1.length c0_1, v12, .int .i64 (l0_0.length : Int), .int .i64 ((l0_0.length : Int) + 1), v15, .int .i64 (l0_0.length : Int), undef, undef, undef], defers := [] }) (by show Act.put _ (some 15) _ = _; simp only [Act.put, List.setIfInBounds_toArray, List.set_cons_zero, List.set_cons_succ]) ?_
      (try simp only [List.setIfInBounds_toArray, List.set_cons_zero, List.set_cons_succ])
      exact h_2_5_8 v9 v12 v15 W2 HB2 (Kd.R_below O5 hb) (Kd.R_lower ho HB.size)
    case a10 =>
      refine Kd.R_make_step (Kd.int .i64) (w0 := W) W.heap.size 3 rfl (N := 17) rfl 23 _ _ rfl (l0_0.length : Int) rfl rfl Tryd.underlying23 (.int .i64 0) 8 info3 rfl (by decide) (by omega) (0 : Int) (ok := fun _ => True) (okp := fun _ => True) rfl (fun _ hk => hk) trivial (by omega) (by omega) (Go.RowKit.Below.refl _ _) (Nat.le_refl _) ?_
      intro v17 W2 ho hb hg_ hn_
      rw [show ((l0_0.length : Int)).toNat = l0_0.length by omega] at ho
      have HB2 := below_then HB HB.size hb
      refine hK.out _ _ ⟨(blk_cell (blk_below BK HB2) 0).trans rfl, (blk_cell (blk_below BK HB2) 1).trans rfl⟩ (fun _ => ?_)
      refine norm_ (a' := { tmps := #[.agg #[.slice A0_0 l0_0.length c0_0, .slice A0_1 l0_1.length c0_1], .pointer (some ⟨gb, 0, none⟩), .pointer none, .int .i64 (l0_0.length : Int), .pointer (some ⟨gb, 0, none⟩), .slice A0_0 l0_0.length c0_0, .int .i64 (l0_0.length : Int), .pointer (some ⟨gb, 0, none⟩), .slice A0_0 l0_0.length c0_0, v9, .pointer (some ⟨gb, 1, none⟩), .slice A0_1 l0_1.length c0_1, v12, .int .i64 (l0_0.length : Int), .int .i64 ((l0_0.length : Int) + 1), undef, .int .i64 (l0_0.length : Int), v17, undef, undef], defers := [] }) (by show Act.put _ (some 17) _ = _; simp only [Act.put, List.setIfInBounds_toArray, List.set_cons_zero, List.set_cons_succ]) ?_
      (try simp only [List.setIfInBounds_toArray, List.set_cons_zero, List.set_cons_succ])
      exact h_2_5_10 v9 v12 v17 W2 HB2 (Kd.R_below O5 hb) (Kd.R_lower ho HB.size)
  have h_2_8 : ∀ (v9 v15 : Value) (W : World), Go.RowKit.Below w.heap.size w W → Kd.R Kd.bool 4 W w.heap.size (fun _ => True) v9 ([] : List Bool) → Kd.R (Kd.int .i64) 3 W w.heap.size (fun _ => True) v15 (List.replicate (l0_0.length + 1) (0 : Int)) → wpAnyLast Tryd.prog .any (opsOf Tryd.f51 2) Q (fun w' : World => w'.cell? ⟨gb, 0, none⟩ = some (.slice A0_0 l0_0.length c0_0) ∧ w'.cell? ⟨gb, 1, none⟩ = some (.slice A0_1 l0_1.length c0_1)) [] 5 #[true, true, true, true, true, false, true, true, true, true, false, false, false, false] { tmps := #[.agg #[.slice A0_0 l0_0.length c0_0, .slice A0_1 l0_1.length c0_1], .pointer (some ⟨gb, 0, none⟩), .pointer none, .int .i64 (l0_0.length : Int), .pointer (some ⟨gb, 0, none⟩), .slice A0_0 l0_0.length c0_0, .int .i64 (l0_0.length : Int), .pointer (some ⟨gb, 0, none⟩), .slice A0_0 l0_0.length c0_0, v9, .pointer (some ⟨gb, 1, none⟩), .slice A0_1 l0_1.length c0_1, undef, .int .i64 (l0_0.length : Int), .int .i64 ((l0_0.length : Int) + 1), v15, .int .i64 (l0_0.length : Int), undef, undef, undef], defers := [] } W := by
    intro v9 v15 W HB O2 O8
    refine wpAnyLast_ready (rs := [5, 10]) (by kernel_rfl) (by simp) (AllReadyL.cons (i := 5) rfl (by decide) (fun K hK => ?a5) (AllReadyL.cons (i := 10) rfl (by decide) (fun K hK => ?a10) AllReadyL.nil))
    case a5 =>
      refine Kd.R_append_rows_step Kd.bool (w0 := w) w.heap.size rfl (.tmp 9) (.tmp 11) 24 4 (.bool false) 1 rfl Tryd.underlying24 info4 rfl (by decide) (by omega) v9 [] l0_1 A0_1 l0_1.length c0_1 (fun _ => True) (fun _ => False) rfl rfl O2 (Kd.C_below hr1 HB) (fun _ _ h => h) (fun _ h => h.elim) (fun _ _ => trivial) HB HB.size (by simp; omega) ?_
      intro v12 W2 ho hb hg_ hn_
      rw [List.nil_append] at ho
      have HB2 := hb
      refine hK.out _ _ ⟨(blk_cell (blk_below BK HB2) 0).trans rfl, (blk_cell (blk_below BK HB2) 1).trans rfl⟩ (fun _ => ?_)
      refine norm_ (a' := { tmps := #[.agg #[.slice A0_0 l0_0.length c0_0, .slice A0_1 l0_1.length c0_1], .pointer (some ⟨gb, 0, none⟩), .pointer none, .int .i64 (l0_0.length : Int), .pointer (some ⟨gb, 0, none⟩), .slice A0_0 l0_0.length c0_0, .int .i64 (l0_0.length : Int), .pointer (some ⟨gb, 0, none⟩), .slice A0_0 l0_0.length c0_0, v9, .pointer (some ⟨gb, 1, none⟩), .slice A0_1 l0_1.length c0_1, v12, .int .i64 (l0_0.length : Int), .int .i64 ((l0_0.length : Int) + 1), v15, .int .i64 (l0_0.length : Int), undef, undef, undef], defers := [] }) (by show Act.put _ (some 12) _ = _; simp only [Act.put, List.setIfInBounds_toArray, List.set_cons_zero, List.set_cons_succ]) ?_
      (try simp only [List.setIfInBounds_toArray, List.set_cons_zero, List.set_cons_succ])
      exact h_2_5_8 v9 v12 v15 W2 HB2 ho (Kd.R_over O8 O2 (fun q hq => by simp [Kd.int, Kd.bool, Kd.scalar] at hq; rw [hq]; decide) hg_)
    case a10 =>
      refine Kd.R_make_step (Kd.int .i64) (w0 := W) W.heap.size 3 rfl (N := 17) rfl 23 _ _ rfl (l0_0.length : Int) rfl rfl Tryd.underlying23 (.int .i64 0) 8 info3 rfl (by decide) (by omega) (0 : Int) (ok := fun _ => True) (okp := fun _ => True) rfl (fun _ hk => hk) trivial (by omega) (by omega) (Go.RowKit.Below.refl _ _) (Nat.le_refl _) ?_
      intro v17 W2 ho hb hg_ hn_
      rw [show ((l0_0.length : Int)).toNat = l0_0.length by omega] at ho
      have HB2 := below_then HB HB.size hb
      refine hK.out _ _ ⟨(blk_cell (blk_below BK HB2) 0).trans rfl, (blk_cell (blk_below BK HB2) 1).trans rfl⟩ (fun _ => ?_)
      refine norm_ (a' := { tmps := #[.agg #[.slice A0_0 l0_0.length c0_0, .slice A0_1 l0_1.length c0_1], .pointer (some ⟨gb, 0, none⟩), .pointer none, .int .i64 (l0_0.length : Int), .pointer (some ⟨gb, 0, none⟩), .slice A0_0 l0_0.length c0_0, .int .i64 (l0_0.length : Int), .pointer (some ⟨gb, 0, none⟩), .slice A0_0 l0_0.length c0_0, v9, .pointer (some ⟨gb, 1, none⟩), .slice A0_1 l0_1.length c0_1, undef, .int .i64 (l0_0.length : Int), .int .i64 ((l0_0.length : Int) + 1), v15, .int .i64 (l0_0.length : Int), v17, undef, undef], defers := [] }) (by show Act.put _ (some 17) _ = _; simp only [Act.put, List.setIfInBounds_toArray, List.set_cons_zero, List.set_cons_succ]) ?_
      (try simp only [List.setIfInBounds_toArray, List.set_cons_zero, List.set_cons_succ])
      exact h_2_8_10 v9 v15 v17 W2 HB2 (Kd.R_below O2 hb) (Kd.R_below O8 hb) (Kd.R_lower ho HB.size) (apart_new O8 ho)
  have h_2_10 : ∀ (v9 v17 : Value) (W : World), Go.RowKit.Below w.heap.size w W → Kd.R Kd.bool 4 W w.heap.size (fun _ => True) v9 ([] : List Bool) → Kd.R (Kd.int .i64) 3 W w.heap.size (fun _ => True) v17 (List.replicate l0_0.length (0 : Int)) → wpAnyLast Tryd.prog .any (opsOf Tryd.f51 2) Q (fun w' : World => w'.cell? ⟨gb, 0, none⟩ = some (.slice A0_0 l0_0.length c0_0) ∧ w'.cell? ⟨gb, 1, none⟩ = some (.slice A0_1 l0_1.length c0_1)) [] 5 #[true, true, true, true, true, false, true, true, false, true, true, false, false, false] { tmps := #[.agg #[.slice A0_0 l0_0.length c0_0, .slice A0_1 l0_1.length c0_1], .pointer (some ⟨gb, 0, none⟩), .pointer none, .int .i64 (l0_0.length : Int), .pointer (some ⟨gb, 0, none⟩), .slice A0_0 l0_0.length c0_0, .int .i64 (l0_0.length : Int), .pointer (some ⟨gb, 0, none⟩), .slice A0_0 l0_0.length c0_0, v9, .pointer (some ⟨gb, 1, none⟩), .slice A0_1 l0_1.length c0_1, undef, .int .i64 (l0_0.length : Int), .int .i64 ((l0_0.length : Int) + 1), undef, .int .i64 (l0_0.length : Int), v17, undef, undef], defers := [] } W := by
    intro v9 v17 W HB O2 O10
    refine wpAnyLast_ready (rs := [5, 8]) (by kernel_rfl) (by simp) (AllReadyL.cons (i := 5) rfl (by decide) (fun K hK => ?a5) (AllReadyL.cons (i := 8) rfl (by decide) (fun K hK => ?a8) AllReadyL.nil))
    case a5 =>
      refine Kd.R_append_rows_step Kd.bool (w0 := w) w.heap.size rfl (.tmp 9) (.tmp 11) 24 4 (.bool false) 1 rfl Tryd.underlying24 info4 rfl (by decide) (by omega) v9 [] l0_1 A0_1 l0_1.length c0_1 (fun _ => True) (fun _ => False) rfl rfl O2 (Kd.C_below hr1 HB) (fun _ _ h => h) (fun _ h => h.elim) (fun _ _ => trivial) HB HB.size (by simp; omega) ?_
      intro v12 W2 ho hb hg_ hn_
      rw [List.nil_append] at ho
      have HB2 := hb
      refine hK.out _ _ ⟨(blk_cell (blk_below BK HB2) 0).trans rfl, (blk_cell (blk_below BK HB2) 1).trans rfl⟩ (fun _ => ?_)
      refine norm_ (a' := { tmps := #[.agg #[.slice A0_0 l0_0.length c0_0, .slice A0_1 l0_1.length c0_1], .pointer (some ⟨gb, 0, none⟩), .pointer none, .int .i64 (l0_0.length : Int), .pointer (some ⟨gb, 0, none⟩), .slice A0_0 l0_0.length c0_0, .int .i64 (l0_0.length : Int), .pointer (some ⟨gb, 0, none⟩), .slice A0_0 l0_0.length c0_0, v9, .pointer (some ⟨gb, 1, none⟩), .slice A0_1 l0_1.length c0_1, v12, .int .i64 (l0_0.length : Int), .int .i64 ((l0_0.length : Int) + 1), undef, .int .i64 (l0_0.length : Int), v17, undef, undef], defers := [] }) (by show Act.put _ (some 12) _ = _; simp only [Act.put, List.setIfInBounds_toArray, List.set_cons_zero, List.set_cons_succ]) ?_
      (try simp only [List.setIfInBounds_toArray, List.set_cons_zero, List.set_cons_succ])
      exact h_2_5_10 v9 v12 v17 W2 HB2 ho (Kd.R_over O10 O2 (fun q hq => by simp [Kd.int, Kd.bool, Kd.scalar] at hq; rw [hq]; decide) hg_)
    case a8 =>
      refine Kd.R_make_step (Kd.int .i64) (w0 := W) W.heap.size 3 rfl (N := 15) rfl 23 _ _ rfl ((l0_0.length : Int) + 1) rfl rfl Tryd.underlying23 (.int .i64 0) 8 info3 rfl (by decide) (by omega) (0 : Int) (ok := fun _ => True) (okp := fun _ => True) rfl (fun _ hk => hk) trivial (by omega) (by omega) (Go.RowKit.Below.refl _ _) (Nat.le_refl _) ?_
      intro v15 W2 ho hb hg_ hn_
      rw [show (((l0_0.length : Int) + 1)).toNat = l0_0.length + 1 by omega] at ho
      have HB2 := below_then HB HB.size hb
      refine hK.out _ _ ⟨(blk_cell (blk_below BK HB2) 0).trans rfl, (blk_cell (blk_below BK HB2) 1).trans rfl⟩ (fun _ => ?_)
      refine norm_ (a' := { tmps := #[.agg #[.slice A0_0 l0_0.length c0_0, .slice A0_1 l0_1.length c0_1], .pointer (some ⟨gb, 0, none⟩), .pointer none, .int .i64 (l0_0.length : Int), .pointer (some ⟨gb, 0, none⟩), .slice A0_0 l0_0.length c0_0, .int .i64 (l0_0.length : Int), .pointer (some ⟨gb, 0, none⟩), .slice A0_0 l0_0.length c0_0, v9, .pointer (some ⟨gb, 1, none⟩), .slice A0_1 l0_1.length c0_1, undef, .int .i64 (l0_0.length : Int), .int .i64 ((l0_0.length : Int) + 1), v15, .int .i64 (l0_0.length : Int), v17, undef, undef], defers := [] }) (by show Act.put _ (some 15) _ = _; simp only [Act.put, List.setIfInBounds_toArray, List.set_cons_zero, List.set_cons_succ]) ?_
      (try simp only [List.setIfInBounds_toArray, List.set_cons_zero, List.set_cons_succ])
      exact h_2_8_10 v9 v15 v17 W2 HB2 (Kd.R_below O2 hb) (Kd.R_lower ho HB.size) (Kd.R_below O10 hb) (fun k h1 h2 => apart_new O10 ho k h2 h1)
  have h_8_10 : ∀ (v15 v17 : Value) (W : World), Go.RowKit.Below w.heap.size w W → Kd.R (Kd.int .i64) 3 W w.heap.size (fun _ => True) v15 (List.replicate (l0_0.length + 1) (0 : Int)) → Kd.R (Kd.int .i64) 3 W w.heap.size (fun _ => True) v17 (List.replicate l0_0.length (0 : Int)) → (∀ k, v15.ownBlock = some k → v17.ownBlock ≠ some k) → wpAnyLast Tryd.prog .any (opsOf Tryd.f51 2) Q (fun w' : World => w'.cell? ⟨gb, 0, none⟩ = some (.slice A0_0 l0_0.length c0_0) ∧ w'.cell? ⟨gb, 1, none⟩ = some (.slice A0_1 l0_1.length c0_1)) [] 5 #[true, true, false, true, true, false, true, true, true, true, true, false, false, false] { tmps := #[.agg #[.slice A0_0 l0_0.length c0_0, .slice A0_1 l0_1.length c0_1], .pointer (some ⟨gb, 0, none⟩), .pointer none, .int .i64 (l0_0.length : Int), .pointer (some ⟨gb, 0, none⟩), .slice A0_0 l0_0.length c0_0, .int .i64 (l0_0.length : Int), .pointer (some ⟨gb, 0, none⟩), .slice A0_0 l0_0.length c0_0, undef, .pointer (some ⟨gb, 1, none⟩), .slice A0_1 l0_1.length c0_1, undef, .int .i64 (l0_0.length : Int), .int .i64 ((l0_0.length : Int) + 1), v15, .int .i64 (l0_0.length : Int), v17, undef, undef], defers := [] } W := by
    intro v15 v17 W HB O8 O10 N8_10
    refine wpAnyLast_ready (rs := [2]) (by kernel_rfl) (by simp) (AllReadyL.cons (i := 2) loNew_op2 (by decide) (fun K hK => ?a2) AllReadyL.nil)
    case a2 =>
      refine Kd.R_lit_step Kd.bool (w0 := W) W.heap.size 4 rfl (N := 9) rfl (xs := []) (inner := []) (ok := fun _ => True) (okp := fun _ => True) ?hr (Reps.none _ _) (fun _ h => h) trivial (Go.RowKit.Below.refl _ _) (Nat.le_refl _) (by simp) ?_
      case hr => first | (go_simp; done) | (go_simp; rfl)
      intro v9 W2 ho hb hg_ hn_
      have HB2 := below_then HB HB.size hb
      refine hK.out _ _ ⟨(blk_cell (blk_below BK HB2) 0).trans rfl, (blk_cell (blk_below BK HB2) 1).trans rfl⟩ (fun _ => ?_)
      refine norm_ (a' := { tmps := #[.agg #[.slice A0_0 l0_0.length c0_0, .slice A0_1 l0_1.length c0_1], .pointer (some ⟨gb, 0, none⟩), .pointer none, .int .i64 (l0_0.length : Int), .pointer (some ⟨gb, 0, none⟩), .slice A0_0 l0_0.length c0_0, .int .i64 (l0_0.length : Int), .pointer (some ⟨gb, 0, none⟩), .slice A0_0 l0_0.length c0_0, v9, .pointer (some ⟨gb, 1, none⟩), .slice A0_1 l0_1.length c0_1, undef, .int .i64 (l0_0.length : Int), .int .i64 ((l0_0.length : Int) + 1), v15, .int .i64 (l0_0.length : Int), v17, undef, undef], defers := [] }) (by show Act.put _ (some 9) _ = _; simp only [Act.put, List.setIfInBounds_toArray, List.set_cons_zero, List.set_cons_succ]) ?_
      (try simp only [List.setIfInBounds_toArray, List.set_cons_zero, List.set_cons_succ])
      exact h_2_8_10 v9 v15 v17 W2 HB2 (Kd.R_lower ho HB.size) (Kd.R_below O8 hb) (Kd.R_below O10 hb) N8_10
  have h_2 : ∀ (v9 : Value) (W : World), Go.RowKit.Below w.heap.size w W → Kd.R Kd.bool 4 W w.heap.size (fun _ => True) v9 ([] : List Bool) → wpAnyLast Tryd.prog .any (opsOf Tryd.f51 2) Q (fun w' : World => w'.cell? ⟨gb, 0, none⟩ = some (.slice A0_0 l0_0.length c0_0) ∧ w'.cell? ⟨gb, 1, none⟩ = some (.slice A0_1 l0_1.length c0_1)) [] 6 #[true, true, true, true, true, false, true, true, false, true, false, false, false, false] { tmps := #[.agg #[.slice A0_0 l0_0.length c0_0, .slice A0_1 l0_1.length c0_1], .pointer (some ⟨gb, 0, none⟩), .pointer none, .int .i64 (l0_0.length : Int), .pointer (some ⟨gb, 0, none⟩), .slice A0_0 l0_0.length c0_0, .int .i64 (l0_0.length : Int), .pointer (some ⟨gb, 0, none⟩), .slice A0_0 l0_0.length c0_0, v9, .pointer (some ⟨gb, 1, none⟩), .slice A0_1 l0_1.length c0_1, undef, .int .i64 (l0_0.length : Int), .int .i64 ((l0_0.length : Int) + 1), undef, .int .i64 (l0_0.length : Int), undef, undef, undef], defers := [] } W := by
    intro v9 W HB O2
    refine wpAnyLast_ready (rs := [5, 8, 10]) (by kernel_rfl) (by simp) (AllReadyL.cons (i := 5) rfl (by decide) (fun K hK => ?a5) (AllReadyL.cons (i := 8) rfl (by decide) (fun K hK => ?a8) (AllReadyL.cons (i := 10) rfl (by decide) (fun K hK => ?a10) AllReadyL.nil)))
    case a5 =>
      refine Kd.R_append_rows_step Kd.bool (w0 := w) w.heap.size rfl (.tmp 9) (.tmp 11) 24 4 (.bool false) 1 rfl Tryd.underlying24 info4 rfl (by decide) (by omega) v9 [] l0_1 A0_1 l0_1.length c0_1 (fun _ => True) (fun _ => False) rfl rfl O2 (Kd.C_below hr1 HB) (fun _ _ h => h) (fun _ h => h.elim) (fun _ _ => trivial) HB HB.size (by simp; omega) ?_
      intro v12 W2 ho hb hg_ hn_
      rw [List.nil_append] at ho
      have HB2 := hb
      refine hK.out _ _ ⟨(blk_cell (blk_below BK HB2) 0).trans rfl, (blk_cell (blk_below BK HB2) 1).trans rfl⟩ (fun _ => ?_)
      refine norm_ (a' := { tmps := #[.agg #[.slice A0_0 l0_0.length c0_0, .slice A0_1 l0_1.length c0_1], .pointer (some ⟨gb, 0, none⟩), .pointer none, .int .i64 (l0_0.length : Int), .pointer (some ⟨gb, 0, none⟩), .slice A0_0 l0_0.length c0_0, .int .i64 (l0_0.length : Int), .pointer (some ⟨gb, 0, none⟩), .slice A0_0 l0_0.length c0_0, v9, .pointer (some ⟨gb, 1, none⟩), .slice A0_1 l0_1.length c0_1, v12, .int .i64 (l0_0.length : Int), .int .i64 ((l0_0.length : Int) + 1), undef, .int .i64 (l0_0.length : Int), undef, undef, undef], defers := [] }) (by show Act.put _ (some 12) _ = _; simp only [Act.put, List.setIfInBounds_toArray, List.set_cons_zero, List.set_cons_succ]) ?_
      (try simp only [List.setIfInBounds_toArray, List.set_cons_zero, List.set_cons_succ])
      exact h_2_5 v9 v12 W2 HB2 ho
    case a8 =>
      refine Kd.R_make_step (Kd.int .i64) (w0 := W) W.heap.size 3 rfl (N := 15) rfl 23 _ _ rfl ((l0_0.length : Int) + 1) rfl rfl Tryd.underlying23 (.int .i64 0) 8 info3 rfl (by decide) (by omega) (0 : Int) (ok := fun _ => True) (okp := fun _ => True) rfl (fun _ hk => hk) trivial (by omega) (by omega) (Go.RowKit.Below.refl _ _) (Nat.le_refl _) ?_
      intro v15 W2 ho hb hg_ hn_
      rw [show (((l0_0.length : Int) + 1)).toNat = l0_0.length + 1 by omega] at ho
      have HB2 := below_then HB HB.size hb
      refine hK.out _ _ ⟨(blk_cell (blk_below BK HB2) 0).trans rfl, (blk_cell (blk_below BK HB2) 1).trans rfl⟩ (fun _ => ?_)
      refine norm_ (a' := { tmps := #[.agg #[.slice A0_0 l0_0.length c0_0, .slice A0_1 l0_1.length c0_1], .pointer (some ⟨gb, 0, none⟩), .pointer none, .int .i64 (l0_0.length : Int), .pointer (some ⟨gb, 0, none⟩), .slice A0_0 l0_0.length c0_0, .int .i64 (l0_0.length : Int), .pointer (some ⟨gb, 0, none⟩), .slice A0_0 l0_0.length c0_0, v9, .pointer (some ⟨gb, 1, none⟩), .slice A0_1 l0_1.length c0_1, undef, .int .i64 (l0_0.length : Int), .int .i64 ((l0_0.length : Int) + 1), v15, .int .i64 (l0_0.length : Int), undef, undef, undef], defers := [] }) (by show Act.put _ (some 15) _ = _; simp only [Act.put, List.setIfInBounds_toArray, List.set_cons_zero, List.set_cons_succ]) ?_
      (try simp only [List.setIfInBounds_toArray, List.set_cons_zero, List.set_cons_succ])
      exact h_2_8 v9 v15 W2 HB2 (Kd.R_below O2 hb) (Kd.R_lower ho HB.size)
    case a10 =>
      refine Kd.R_make_step (Kd.int .i64) (w0 := W) W.heap.size 3 rfl (N := 17) rfl 23 _ _ rfl (l0_0.length : Int) rfl rfl Tryd.underlying23 (.int .i64 0) 8 info3 rfl (by decide) (by omega) (0 : Int) (ok := fun _ => True) (okp := fun _ => True) rfl (fun _ hk => hk) trivial (by omega) (by omega) (Go.RowKit.Below.refl _ _) (Nat.le_refl _) ?_
      intro v17 W2 ho hb hg_ hn_
      rw [show ((l0_0.length : Int)).toNat = l0_0.length by omega] at ho
      have HB2 := below_then HB HB.size hb
      refine hK.out _ _ ⟨(blk_cell (blk_below BK HB2) 0).trans rfl, (blk_cell (blk_below BK HB2) 1).trans rfl⟩ (fun _ => ?_)
      refine norm_ (a' := { tmps := #[.agg #[.slice A0_0 l0_0.length c0_0, .slice A0_1 l0_1.length c0_1], .pointer (some ⟨gb, 0, none⟩), .pointer none, .int .i64 (l0_0.length : Int), .pointer (some ⟨gb, 0, none⟩), .slice A0_0 l0_0.length c0_0, .int .i64 (l0_0.length : Int), .pointer (some ⟨gb, 0, none⟩), .slice A0_0 l0_0.length c0_0, v9, .pointer (some ⟨gb, 1, none⟩), .slice A0_1 l0_1.length c0_1, undef, .int .i64 (l0_0.length : Int), .int .i64 ((l0_0.length : Int) + 1), undef, .int .i64 (l0_0.length : Int), v17, undef, undef], defers := [] }) (by show Act.put _ (some 17) _ = _; simp only [Act.put, List.setIfInBounds_toArray, List.set_cons_zero, List.set_cons_succ]) ?_
      (try simp only [List.setIfInBounds_toArray, List.set_cons_zero, List.set_cons_succ])
      exact h_2_10 v9 v17 W2 HB2 (Kd.R_below O2 hb) (Kd.R_lower ho HB.size)
  have h_8 : ∀ (v15 : Value) (W : World), Go.RowKit.Below w.heap.size w W → Kd.R (Kd.int .i64) 3 W w.heap.size (fun _ => True) v15 (List.replicate (l0_0.length + 1) (0 : Int)) → wpAnyLast Tryd.prog .any (opsOf Tryd.f51 2) Q (fun w' : World => w'.cell? ⟨gb, 0, none⟩ = some (.slice A0_0 l0_0.length c0_0) ∧ w'.cell? ⟨gb, 1, none⟩ = some (.slice A0_1 l0_1.length c0_1)) [] 6 #[true, true, false, true, true, false, true, true, true, true, false, false, false, false] { tmps := #[.agg #[.slice A0_0 l0_0.length c0_0, .slice A0_1 l0_1.length c0_1], .pointer (some ⟨gb, 0, none⟩), .pointer none, .int .i64 (l0_0.length : Int), .pointer (some ⟨gb, 0, none⟩), .slice A0_0 l0_0.length c0_0, .int .i64 (l0_0.length : Int), .pointer (some ⟨gb, 0, none⟩), .slice A0_0 l0_0.length c0_0, undef, .pointer (some ⟨gb, 1, none⟩), .slice A0_1 l0_1.length c0_1, undef, .int .i64 (l0_0.length : Int), .int .i64 ((l0_0.length : Int) + 1), v15, .int .i64 (l0_0.length : Int), undef, undef, undef], defers := [] } W := by
    intro v15 W HB O8
    refine wpAnyLast_ready (rs := [2, 10]) (by kernel_rfl) (by simp) (AllReadyL.cons (i := 2) loNew_op2 (by decide) (fun K hK => ?a2) (AllReadyL.cons (i := 10) rfl (by decide) (fun K hK => ?a10) AllReadyL.nil))
    case a2 =>
      refine Kd.R_lit_step Kd.bool (w0 := W) W.heap.size 4 rfl (N := 9) rfl (xs := []) (inner := []) (ok := fun _ => True) (okp := fun _ => True) ?hr (Reps.none _ _) (fun _ h => h) trivial (Go.RowKit.Below.refl _ _) (Nat.le_refl _) (by simp) ?_
      case hr => first | (go_simp; done) | (go_simp; rfl)
      intro v9 W2 ho hb hg_ hn_
      have HB2 := below_then HB HB.size hb
      refine hK.out _ _ ⟨(blk_cell (blk_below BK HB2) 0).trans rfl, (blk_cell (blk_below BK HB2) 1).trans rfl⟩ (fun _ => ?_)
      refine norm_ (a' := { tmps := #[.agg #[.slice A0_0 l0_0.length c0_0, .slice A0_1 l0_1.length c0_1], .pointer (some ⟨gb, 0, none⟩), .pointer none, .int .i64 (l0_0.length : Int), .pointer (some ⟨gb, 0, none⟩), .slice A0_0 l0_0.length c0_0, .int .i64 (l0_0.length : Int), .pointer (some ⟨gb, 0, none⟩), .slice A0_0 l0_0.length c0_0, v9, .pointer (some ⟨gb, 1, none⟩), .slice A0_1 l0_1.length c0_1, undef, .int .i64 (l0_0.length : Int), .int .i64 ((l0_0.length : Int) + 1), v15, .int .i64 (l0_0.length : Int), undef, undef, undef], defers := [] }) (by show Act.put _ (some 9) _ = _; simp only [Act.put, List.setIfInBounds_toArray, List.set_cons_zero, List.set_cons_succ]) ?_
      (try simp only [List.setIfInBounds_toArray, List.set_cons_zero, List.set_cons_succ])
      exact h_2_8 v9 v15 W2 HB2 (Kd.R_lower ho HB.size) (Kd.R_below O8 hb)
    case a10 =>
      refine Kd.R_make_step (Kd.int .i64) (w0 := W) W.heap.size 3 rfl (N := 17) rfl 23 _ _ rfl (l0_0.length : Int) rfl rfl Tryd.underlying23 (.int .i64 0) 8 info3 rfl (by decide) (by omega) (0 : Int) (ok := fun _ => True) (okp := fun _ => True) rfl (fun _ hk => hk) trivial (by omega) (by omega) (Go.RowKit.Below.refl _ _) (Nat.le_refl _) ?_
      intro v17 W2 ho hb hg_ hn_
      rw [show ((l0_0.length : Int)).toNat = l0_0.length by omega] at ho
      have HB2 := below_then HB HB.size hb
      refine hK.out _ _ ⟨(blk_cell (blk_below BK HB2) 0).trans rfl, (blk_cell (blk_below BK HB2) 1).trans rfl⟩ (fun _ => ?_)
      refine norm_ (a' := { tmps := #[.agg #[.slice A0_0 l0_0.length c0_0, .slice A0_1 l0_1.length c0_1], .pointer (some ⟨gb, 0, none⟩), .pointer none, .int .i64 (l0_0.length : Int), .pointer (some ⟨gb, 0, none⟩), .slice A0_0 l0_0.length c0_0, .int .i64 (l0_0.length : Int), .pointer (some ⟨gb, 0, none⟩), .slice A0_0 l0_0.length c0_0, undef, .pointer (some ⟨gb, 1, none⟩), .slice A0_1 l0_1.length c0_1, undef, .int .i64 (l0_0.length : Int), .int .i64 ((l0_0.length : Int) + 1), v15, .int .i64 (l0_0.length : Int), v17, undef, undef], defers := [] }) (by show Act.put _ (some 17) _ = _; simp only [Act.put, List.setIfInBounds_toArray, List.set_cons_zero, List.set_cons_succ]) ?_
      (try simp only [List.setIfInBounds_toArray, List.set_cons_zero, List.set_cons_succ])
      exact h_8_10 v15 v17 W2 HB2 (Kd.R_below O8 hb) (Kd.R_lower ho HB.size) (apart_new O8 ho)
  have h_10 : ∀ (v17 : Value) (W : World), Go.RowKit.Below w.heap.size w W → Kd.R (Kd.int .i64) 3 W w.heap.size (fun _ => True) v17 (List.replicate l0_0.length (0 : Int)) → wpAnyLast Tryd.prog .any (opsOf Tryd.f51 2) Q (fun w' : World => w'.cell? ⟨gb, 0, none⟩ = some (.slice A0_0 l0_0.length c0_0) ∧ w'.cell? ⟨gb, 1, none⟩ = some (.slice A0_1 l0_1.length c0_1)) [] 6 #[true, true, false, true, true, false, true, true, false, true, true, false, false, false] { tmps := #[.agg #[.slice A0_0 l0_0.length c0_0, .slice A0_1 l0_1.length c0_1], .pointer (some ⟨gb, 0, none⟩), .pointer none, .int .i64 (l0_0.length : Int), .pointer (some ⟨gb, 0, none⟩), .slice A0_0 l0_0.length c0_0, .int .i64 (l0_0.length : Int), .pointer (some ⟨gb, 0, none⟩), .slice A0_0 l0_0.length c0_0, undef, .pointer (some ⟨gb, 1, none⟩), .slice A0_1 l0_1.length c0_1, undef, .int .i64 (l0_0.length : Int), .int .i64 ((l0_0.length : Int) + 1), undef, .int .i64 (l0_0.length : Int), v17, undef, undef], defers := [] } W := by
    intro v17 W HB O10
    refine wpAnyLast_ready (rs := [2, 8]) (by kernel_rfl) (by simp) (AllReadyL.cons (i := 2) loNew_op2 (by decide) (fun K hK => ?a2) (AllReadyL.cons (i := 8) rfl (by decide) (fun K hK => ?a8) AllReadyL.nil))
    case a2 =>
      refine Kd.R_lit_step Kd.bool (w0 := W) W.heap.size 4 rfl (N := 9) rfl (xs := []) (inner := []) (ok := fun _ => True) (okp := fun _ => True) ?hr (Reps.none _ _) (fun _ h => h) trivial (Go.RowKit.Below.refl _ _) (Nat.le_refl _) (by simp) ?_
      case hr => first | (go_simp; done) | (go_simp; rfl)
      intro v9 W2 ho hb hg_ hn_
      have HB2 := below_then HB HB.size hb
      refine hK.out _ _ ⟨(blk_cell (blk_below BK HB2) 0).trans rfl, (blk_cell (blk_below BK HB2) 1).trans rfl⟩ (fun _ => ?_)
      refine norm_ (a' := { tmps := #[.agg #[.slice A0_0 l0_0.length c0_0, .slice A0_1 l0_1.length c0_1], .pointer (some ⟨gb, 0, none⟩), .pointer none, .int .i64 (l0_0.length : Int), .pointer (some ⟨gb, 0, none⟩), .slice A0_0 l0_0.length c0_0, .int .i64 (l0_0.length : Int), .pointer (some ⟨gb, 0, none⟩), .slice A0_0 l0_0.length c0_0, v9, .pointer (some ⟨gb, 1, none⟩), .slice A0_1 l0_1.length c0_1, undef, .int .i64 (l0_0.length : Int), .int .i64 ((l0_0.length : Int) + 1), undef, .int .i64 (l0_0.length : Int), v17, undef, undef], defers := [] }) (by show Act.put _ (some 9) _ = _; simp only [Act.put, List.setIfInBounds_toArray, List.set_cons_zero, List.set_cons_succ]) ?_
      (try simp only [List.setIfInBounds_toArray, List.set_cons_zero, List.set_cons_succ])
      exact h_2_10 v9 v17 W2 HB2 (Kd.R_lower ho HB.size) (Kd.R_below O10 hb)
    case a8 =>
      refine Kd.R_make_step (Kd.int .i64) (w0 := W) W.heap.size 3 rfl (N := 15) rfl 23 _ _ rfl ((l0_0.length : Int) + 1) rfl rfl Tryd.underlying23 (.int .i64 0) 8 info3 rfl (by decide) (by omega) (0 : Int) (ok := fun _ => True) (okp := fun _ => True) rfl (fun _ hk => hk) trivial (by omega) (by omega) (Go.RowKit.Below.refl _ _) (Nat.le_refl _) ?_
      intro v15 W2 ho hb hg_ hn_
      rw [show (((l0_0.length : Int) + 1)).toNat = l0_0.length + 1 by omega] at ho
      have HB2 := below_then HB HB.size hb
      refine hK.out _ _ ⟨(blk_cell (blk_below BK HB2) 0).trans rfl, (blk_cell (blk_below BK HB2) 1).trans rfl⟩ (fun _ => ?_)
      refine norm_ (a' := { tmps := #[.agg #[.slice A0_0 l0_0.length c0_0, .slice A0_1 l0_1.length c0_1], .pointer (some ⟨gb, 0, none⟩), .pointer none, .int .i64 (l0_0.length : Int), .pointer (some ⟨gb, 0, none⟩), .slice A0_0 l0_0.length c0_0, .int .i64 (l0_0.length : Int), .pointer (some ⟨gb, 0, none⟩), .slice A0_0 l0_0.length c0_0, undef, .pointer (some ⟨gb, 1, none⟩), .slice A0_1 l0_1.length c0_1, undef, .int .i64 (l0_0.length : Int), .int .i64 ((l0_0.length : Int) + 1), v15, .int .i64 (l0_0.length : Int), v17, undef, undef], defers := [] }) (by show Act.put _ (some 15) _ = _; simp only [Act.put, List.setIfInBounds_toArray, List.set_cons_zero, List.set_cons_succ]) ?_
      (try simp only [List.setIfInBounds_toArray, List.set_cons_zero, List.set_cons_succ])
      exact h_8_10 v15 v17 W2 HB2 (Kd.R_lower ho HB.size) (Kd.R_below O10 hb) (fun k h1 h2 => apart_new O10 ho k h2 h1)
  refine wpAnyLast_ready (rs := [2, 8, 10]) (by kernel_rfl) (by simp) (AllReadyL.cons (i := 2) loNew_op2 (by decide) (fun K hK => ?a2) (AllReadyL.cons (i := 8) rfl (by decide) (fun K hK => ?a8) (AllReadyL.cons (i := 10) rfl (by decide) (fun K hK => ?a10) AllReadyL.nil)))
  case a2 =>
    refine Kd.R_lit_step Kd.bool (w0 := W) W.heap.size 4 rfl (N := 9) rfl (xs := []) (inner := []) (ok := fun _ => True) (okp := fun _ => True) ?hr (Reps.none _ _) (fun _ h => h) trivial (Go.RowKit.Below.refl _ _) (Nat.le_refl _) (by simp) ?_
    case hr => first | (go_simp; done) | (go_simp; rfl)
    intro v9 W2 ho hb hg_ hn_
    have HB2 := below_then HB HB.size hb
    refine hK.out _ _ ⟨(blk_cell (blk_below BK HB2) 0).trans rfl, (blk_cell (blk_below BK HB2) 1).trans rfl⟩ (fun _ => ?_)
    refine norm_ (a' := { tmps := #[.agg #[.slice A0_0 l0_0.length c0_0, .slice A0_1 l0_1.length c0_1], .pointer (some ⟨gb, 0, none⟩), .pointer none, .int .i64 (l0_0.length : Int), .pointer (some ⟨gb, 0, none⟩), .slice A0_0 l0_0.length c0_0, .int .i64 (l0_0.length : Int), .pointer (some ⟨gb, 0, none⟩), .slice A0_0 l0_0.length c0_0, v9, .pointer (some ⟨gb, 1, none⟩), .slice A0_1 l0_1.length c0_1, undef, .int .i64 (l0_0.length : Int), .int .i64 ((l0_0.length : Int) + 1), undef, .int .i64 (l0_0.length : Int), undef, undef, undef], defers := [] }) (by show Act.put _ (some 9) _ = _; simp only [Act.put, List.setIfInBounds_toArray, List.set_cons_zero, List.set_cons_succ]) ?_
    (try simp only [List.setIfInBounds_toArray, List.set_cons_zero, List.set_cons_succ])
    exact h_2 v9 W2 HB2 (Kd.R_lower ho HB.size)
  case a8 =>
    refine Kd.R_make_step (Kd.int .i64) (w0 := W) W.heap.size 3 rfl (N := 15) rfl 23 _ _ rfl ((l0_0.length : Int) + 1) rfl rfl Tryd.underlying23 (.int .i64 0) 8 info3 rfl (by decide) (by omega) (0 : Int) (ok := fun _ => True) (okp := fun _ => True) rfl (fun _ hk => hk) trivial (by omega) (by omega) (Go.RowKit.Below.refl _ _) (Nat.le_refl _) ?_
    intro v15 W2 ho hb hg_ hn_
    rw [show (((l0_0.length : Int) + 1)).toNat = l0_0.length + 1 by omega] at ho
    have HB2 := below_then HB HB.size hb
    refine hK.out _ _ ⟨(blk_cell (blk_below BK HB2) 0).trans rfl, (blk_cell (blk_below BK HB2) 1).trans rfl⟩ (fun _ => ?_)
    refine norm_ (a' := { tmps := #[.agg #[.slice A0_0 l0_0.length c0_0, .slice A0_1 l0_1.length c0_1], .pointer (some ⟨gb, 0, none⟩), .pointer none, .int .i64 (l0_0.length : Int), .pointer (some ⟨gb, 0, none⟩), .slice A0_0 l0_0.length c0_0, .int .i64 (l0_0.length : Int), .pointer (some ⟨gb, 0, none⟩), .slice A0_0 l0_0.length c0_0, undef, .pointer (some ⟨gb, 1, none⟩), .slice A0_1 l0_1.length c0_1, undef, .int .i64 (l0_0.length : Int), .int .i64 ((l0_0.length : Int) + 1), v15, .int .i64 (l0_0.length : Int), undef, undef, undef], defers := [] }) (by show Act.put _ (some 15) _ = _; simp only [Act.put, List.setIfInBounds_toArray, List.set_cons_zero, List.set_cons_succ]) ?_
    (try simp only [List.setIfInBounds_toArray, List.set_cons_zero, List.set_cons_succ])
    exact h_8 v15 W2 HB2 (Kd.R_lower ho HB.size)
  case a10 =>
    refine Kd.R_make_step (Kd.int .i64) (w0 := W) W.heap.size 3 rfl (N := 17) rfl 23 _ _ rfl (l0_0.length : Int) rfl rfl Tryd.underlying23 (.int .i64 0) 8 info3 rfl (by decide) (by omega) (0 : Int) (ok := fun _ => True) (okp := fun _ => True) rfl (fun _ hk => hk) trivial (by omega) (by omega) (Go.RowKit.Below.refl _ _) (Nat.le_refl _) ?_
    intro v17 W2 ho hb hg_ hn_
    rw [show ((l0_0.length : Int)).toNat = l0_0.length by omega] at ho
    have HB2 := below_then HB HB.size hb
    refine hK.out _ _ ⟨(blk_cell (blk_below BK HB2) 0).trans rfl, (blk_cell (blk_below BK HB2) 1).trans rfl⟩ (fun _ => ?_)
    refine norm_ (a' := { tmps := #[.agg #[.slice A0_0 l0_0.length c0_0, .slice A0_1 l0_1.length c0_1], .pointer (some ⟨gb, 0, none⟩), .pointer none, .int .i64 (l0_0.length : Int), .pointer (some ⟨gb, 0, none⟩), .slice A0_0 l0_0.length c0_0, .int .i64 (l0_0.length : Int), .pointer (some ⟨gb, 0, none⟩), .slice A0_0 l0_0.length c0_0, undef, .pointer (some ⟨gb, 1, none⟩), .slice A0_1 l0_1.length c0_1, undef, .int .i64 (l0_0.length : Int), .int .i64 ((l0_0.length : Int) + 1), undef, .int .i64 (l0_0.length : Int), v17, undef, undef], defers := [] }) (by show Act.put _ (some 17) _ = _; simp only [Act.put, List.setIfInBounds_toArray, List.set_cons_zero, List.set_cons_succ]) ?_
    (try simp only [List.setIfInBounds_toArray, List.set_cons_zero, List.set_cons_succ])
    exact h_10 v17 W2 HB2 (Kd.R_lower ho HB.size)
set_option maxHeartbeats 4000000 in
set_option maxRecDepth 100000 in
theorem loNew.raw (A0_0 : Option Addr) (c0_0 : Nat) (l0_0 : List Int) (A0_1 : Option Addr) (c0_1 : Nat) (l0_1 : List Bool) (w : World) (hr0 : Kd.C (Kd.int .i64) w A0_0 l0_0.length l0_0) (hc0 : l0_0.length ≤ c0_0) (hr1 : Kd.C Kd.bool w A0_1 l0_1.length l0_1) (hc1 : l0_1.length ≤ c0_1) (hl0 : l0_0.length ≤ 1000) (hl1 : l0_1.length ≤ 1000) :
    Calls Tryd.prog 51 #[.agg #[.slice A0_0 l0_0.length c0_0, .slice A0_1 l0_1.length c0_1]] w fun e w' => ∃ (g : Nat) (v12 v15 v17 : Value), e = .returned (.pointer (some ⟨g, 0, none⟩)) ∧ w.heap.size ≤ g ∧ w'.heap[g]? = some (.cells #[.slice A0_0 l0_0.length c0_0, v12, v15, v17] 54 (0, 0)) ∧ Go.RowKit.Below w.heap.size w w' ∧ Kd.R Kd.bool 4 w' w.heap.size (fun _ => True) v12 l0_1 ∧ Kd.R (Kd.int .i64) 3 w' w.heap.size (fun _ => True) v15 (List.replicate (l0_0.length + 1) (0 : Int)) ∧ Kd.R (Kd.int .i64) 3 w' w.heap.size (fun _ => True) v17 (List.replicate l0_0.length (0 : Int)) ∧ (∀ k, v15.ownBlock = some k → v17.ownBlock ≠ some k) := by
  have HB0 := Aside0.mk (below_drew1 (below_alloc (Go.RowKit.Below.refl w.heap.size w) (.cells #[.slice A0_0 l0_0.length c0_0, .slice A0_1 l0_1.length c0_1] 30)))
  have BK := Aside0.mk (blk_drew (hw_new0 w (.cells #[.slice A0_0 l0_0.length c0_0, .slice A0_1 l0_1.length c0_1] 30)))
  have e1 : wrap64 ((l0_0.length : Int) + 1) = (l0_0.length : Int) + 1 := by unfold wrap64; omega
  have hp := Aside0.mk (fun Q hQ hfin => loNew_region A0_0 c0_0 l0_0 A0_1 c0_1 l0_1 w.heap.size ((w.alloc (.cells #[.slice A0_0 l0_0.length c0_0, .slice A0_1 l0_1.length c0_1] 30)).drew) Q hQ (Kd.C_below hr0 HB0.out) hc0 (Kd.C_below hr1 HB0.out) hc1 hl0 hl1 BK.out hfin _ (Go.RowKit.Below.refl _ _))
  have hc1 := (blk_cell (hw_new0 w (.cells #[.slice A0_0 l0_0.length c0_0, .slice A0_1 l0_1.length c0_1] 30)) 0).trans rfl
  clear hr0 hr1 hc0 hl0 hl1
  go_enter Tryd.func51, Tryd.ntmps51
  go_wp2
  refine start_ (n := 14) (S := fun w' => w'.cell? ⟨w.heap.size, 0, none⟩ = some (.slice A0_0 l0_0.length c0_0) ∧ w'.cell? ⟨w.heap.size, 1, none⟩ = some (.slice A0_1 l0_1.length c0_1)) (ds := []) #[false, false, false, false, false, false, false, false, false, false, false, false, false, false] (by kernel_rfl) rfl rfl ⟨(blk_cell BK.out 0).trans rfl, (blk_cell BK.out 1).trans rfl⟩ (fun hHeld => ?_)
  refine pure_ (i := 0) (N := some 7) (v := ?_) (a' := ?_) #[true, false, false, false, false, false, false, false, false, false, false, false, false, false] rfl rfl (by kernel_rfl) (fun _ _ _ h => h) (Or.inl ⟨by rfl, ?_⟩) ?_ ?_
  rotate_left
  · intro w'
    go_simp
    with_reducible rfl
  rotate_left
  · simp only [Act.put, List.setIfInBounds_toArray, List.set_cons_zero, List.set_cons_succ, i64_w, i32_w]
    rfl
  refine take_ (i := 1) (N := some 8) (v := ?_) (a' := ?_) #[true, true, false, false, false, false, false, false, false, false, false, false, false, false] rfl rfl (by kernel_rfl) (fun _ _ _ h => h) (Or.inl ⟨by rfl, ?_⟩) hHeld ?_ ?_
  rotate_left
  · rintro w' ⟨s0, s1⟩
    go_simp
    with_reducible rfl
  rotate_left
  · simp only [Act.put, List.setIfInBounds_toArray, List.set_cons_zero, List.set_cons_succ, i64_w, i32_w]
    rfl
  refine pure_ (i := 3) (N := some 10) (v := ?_) (a' := ?_) #[true, true, false, true, false, false, false, false, false, false, false, false, false, false] rfl rfl (by kernel_rfl) (fun _ _ _ h => h) (Or.inl ⟨by rfl, ?_⟩) ?_ ?_
  rotate_left
  · intro w'
    go_simp
    with_reducible rfl
  rotate_left
  · simp only [Act.put, List.setIfInBounds_toArray, List.set_cons_zero, List.set_cons_succ, i64_w, i32_w]
    rfl
  refine take_ (i := 4) (N := some 11) (v := ?_) (a' := ?_) #[true, true, false, true, true, false, false, false, false, false, false, false, false, false] rfl rfl (by kernel_rfl) (fun _ _ _ h => h) (Or.inl ⟨by rfl, ?_⟩) hHeld ?_ ?_
  rotate_left
  · rintro w' ⟨s0, s1⟩
    go_simp
    with_reducible rfl
  rotate_left
  · simp only [Act.put, List.setIfInBounds_toArray, List.set_cons_zero, List.set_cons_succ, i64_w, i32_w]
    rfl
  refine pure_ (i := 6) (N := some 13) (v := ?_) (a' := ?_) #[true, true, false, true, true, false, true, false, false, false, false, false, false, false] rfl rfl (by kernel_rfl) (fun _ _ _ h => h) (Or.inl ⟨by rfl, ?_⟩) ?_ ?_
  rotate_left
  · intro w'
    go_simp
    with_reducible rfl
  rotate_left
  · simp only [Act.put, List.setIfInBounds_toArray, List.set_cons_zero, List.set_cons_succ, i64_w, i32_w]
    rfl
  refine pure_ (i := 7) (N := some 14) (v := ?_) (a' := ?_) #[true, true, false, true, true, false, true, true, false, false, false, false, false, false] rfl rfl (by kernel_rfl) (fun _ _ _ h => h) (Or.inl ⟨by rfl, ?_⟩) ?_ ?_
  rotate_left
  · intro w'
    go_simp
    with_reducible rfl
  rotate_left
  · simp only [Act.put, List.setIfInBounds_toArray, List.set_cons_zero, List.set_cons_succ, i64_w, i32_w]
    rfl
  refine pure_ (i := 9) (N := some 16) (v := ?_) (a' := ?_) #[true, true, false, true, true, false, true, true, false, true, false, false, false, false] rfl rfl (by kernel_rfl) (fun _ _ _ h => h) (Or.inl ⟨by rfl, ?_⟩) ?_ ?_
  rotate_left
  · intro w'
    go_simp
    with_reducible rfl
  rotate_left
  · simp only [Act.put, List.setIfInBounds_toArray, List.set_cons_zero, List.set_cons_succ, i64_w, i32_w]
    rfl
  rw [e1]
  refine hp.out _ ?hq ?hf
  case hq =>
    intro c a d v W h
    cases d <;> exact h
  clear hp
  intro v9 v12 v15 v17 W HB O5 O8 O10 N8_10
  obtain ⟨Ao12, co12, eo12⟩ := Kd.R_slice O5
  obtain ⟨Ao15, co15, eo15⟩ := Kd.R_slice O8
  obtain ⟨Ao17, co17, eo17⟩ := Kd.R_slice O10
  have BK3 := blk_below BK.out HB
  have hHeld := And.intro ((blk_cell BK3 0).trans rfl) ((blk_cell BK3 1).trans rfl)
  refine pure_ (i := 11) (N := some 18) (v := .agg #[.slice A0_0 l0_0.length c0_0, v12, v15, v17]) (a' := { tmps := #[.agg #[.slice A0_0 l0_0.length c0_0, .slice A0_1 l0_1.length c0_1], .pointer (some ⟨w.heap.size, 0, none⟩), .pointer none, .int .i64 (l0_0.length : Int), .pointer (some ⟨w.heap.size, 0, none⟩), .slice A0_0 l0_0.length c0_0, .int .i64 (l0_0.length : Int), .pointer (some ⟨w.heap.size, 0, none⟩), .slice A0_0 l0_0.length c0_0, v9, .pointer (some ⟨w.heap.size, 1, none⟩), .slice A0_1 l0_1.length c0_1, v12, .int .i64 (l0_0.length : Int), .int .i64 ((l0_0.length : Int) + 1), v15, .int .i64 (l0_0.length : Int), v17, .agg #[.slice A0_0 l0_0.length c0_0, v12, v15, v17], undef], defers := [] }) #[true, true, true, true, true, true, true, true, true, true, true, true, false, false] loNew_op11 rfl (by kernel_rfl) (fun _ _ _ h => h) (Or.inl ⟨by rfl, ?_⟩) (by simp only [Act.put, List.setIfInBounds_toArray, List.set_cons_zero, List.set_cons_succ]) ?_
  · intro w'
    rw [eo12, eo15, eo17]
    go_simp
    first | done | rfl
  refine one_ (i := 12) (N := some 19) #[true, true, true, true, true, true, true, true, true, true, true, true, true, false] loNew_op12 rfl (by kernel_rfl) (by decide) (fun K hK => ?_)
  refine value_ (v := .pointer (some ⟨W.heap.size, 0, none⟩)) (w1 := W.alloc (.cells #[.slice A0_0 l0_0.length c0_0, v12, v15, v17] 54)) rfl rfl ?_ ?_
  · go_simp
    first | done | rfl
  refine hK.out _ _ ⟨(blk_cell (blk_alloc BK3 _) 0).trans rfl, (blk_cell (blk_alloc BK3 _) 1).trans rfl⟩ (fun _ => ?_)
  clear hK K
  refine norm_ (a' := { tmps := #[.agg #[.slice A0_0 l0_0.length c0_0, .slice A0_1 l0_1.length c0_1], .pointer (some ⟨w.heap.size, 0, none⟩), .pointer none, .int .i64 (l0_0.length : Int), .pointer (some ⟨w.heap.size, 0, none⟩), .slice A0_0 l0_0.length c0_0, .int .i64 (l0_0.length : Int), .pointer (some ⟨w.heap.size, 0, none⟩), .slice A0_0 l0_0.length c0_0, v9, .pointer (some ⟨w.heap.size, 1, none⟩), .slice A0_1 l0_1.length c0_1, v12, .int .i64 (l0_0.length : Int), .int .i64 ((l0_0.length : Int) + 1), v15, .int .i64 (l0_0.length : Int), v17, .agg #[.slice A0_0 l0_0.length c0_0, v12, v15, v17], .pointer (some ⟨W.heap.size, 0, none⟩)], defers := [] }) (by show Act.put _ (some 19) _ = _; simp only [Act.put, List.setIfInBounds_toArray, List.set_cons_zero, List.set_cons_succ]) ?_
  refine pure_ (i := 13) (N := some 2) (v := .pointer (some ⟨W.heap.size, 0, none⟩)) (a' := { tmps := #[.agg #[.slice A0_0 l0_0.length c0_0, .slice A0_1 l0_1.length c0_1], .pointer (some ⟨w.heap.size, 0, none⟩), .pointer (some ⟨W.heap.size, 0, none⟩), .int .i64 (l0_0.length : Int), .pointer (some ⟨w.heap.size, 0, none⟩), .slice A0_0 l0_0.length c0_0, .int .i64 (l0_0.length : Int), .pointer (some ⟨w.heap.size, 0, none⟩), .slice A0_0 l0_0.length c0_0, v9, .pointer (some ⟨w.heap.size, 1, none⟩), .slice A0_1 l0_1.length c0_1, v12, .int .i64 (l0_0.length : Int), .int .i64 ((l0_0.length : Int) + 1), v15, .int .i64 (l0_0.length : Int), v17, .agg #[.slice A0_0 l0_0.length c0_0, v12, v15, v17], .pointer (some ⟨W.heap.size, 0, none⟩)], defers := [] }) #[true, true, true, true, true, true, true, true, true, true, true, true, true, true] loNew_op13 rfl (by kernel_rfl) (fun _ _ _ h => h) (Or.inl ⟨by rfl, ?_⟩) (by simp only [Act.put, List.setIfInBounds_toArray, List.set_cons_zero, List.set_cons_succ]) ?_
  · intro w'
    go_simp
    first | done | rfl
  refine done_ (by kernel_rfl) ?_
  go_wp2
  go_ret
  have hz := HB0.out.size
  have HB1 := below_then HB0.out hz HB
  exact ⟨W.heap.size, v12, v15, v17, rfl, HB1.size, hw_new0 _ _, below_alloc HB1 _, Kd.R_alloc (Kd.R_lower O5 hz) _, Kd.R_alloc (Kd.R_lower O8 hz) _, Kd.R_alloc (Kd.R_lower O10 hz) _, N8_10⟩
theorem loNew.calls (A0_0 : Option Addr) (c0_0 : Nat) (l0_0 : List Int) (A0_1 : Option Addr) (c0_1 : Nat) (l0_1 : List Bool) (w : World) (hr0 : Kd.C (Kd.int .i64) w A0_0 l0_0.length l0_0) (hc0 : l0_0.length ≤ c0_0) (hr1 : Kd.C Kd.bool w A0_1 l0_1.length l0_1) (hc1 : l0_1.length ≤ c0_1) (hl0 : l0_0.length ≤ 1000) (hl1 : l0_1.length ≤ 1000) (hlen : l0_1.length = l0_0.length) (hpos : 1 ≤ l0_0.length) :
    Calls Tryd.prog 51 #[.agg #[.slice A0_0 l0_0.length c0_0, .slice A0_1 l0_1.length c0_1]] w fun e w' => ∃ p : PA, e = .returned (.pointer (some ⟨p.g, 0, none⟩)) ∧ p.n = l0_0.length ∧ w.heap.size ≤ p.g ∧ Pas 54 w.heap.size p (newS l0_0 l0_1) w' ∧ Below w.heap.size w w' := by
  refine (loNew.raw A0_0 c0_0 l0_0 A0_1 c0_1 l0_1 w hr0 hc0 hr1 hc1 hl0 hl1).mono ?_
  rintro e w' ⟨g, v12, v15, v17, rfl, hg, hh, hb, o8, o14, o18, hne⟩
  obtain ⟨g8, c8, cu8, rfl, hb8, hh8⟩ := blockB o8 (by omega)
  obtain ⟨g14, c14, cu14, rfl, hb14, hh14⟩ := blockI o14 (by simp)
  obtain ⟨g18, c18, cu18, rfl, hb18, hh18⟩ := blockI o18 (by simp; omega)
  rw [hlen] at hh o8
  rw [List.length_replicate, List.length_replicate] at hh
  rw [List.length_replicate] at o14 o18
  refine ⟨⟨g, A0_0, c0_0, g8, c8, g14, c14, g18, c18, l0_0.length⟩, rfl, rfl, hg, ?_, hb⟩
  exact { box := hh
          lf := Kd.C_kept_came (Kd.heap_int .i64) hr0 hb (fun k hk => by rcases hk with rfl | rfl | rfl <;> assumption)
          r8 := okB o8
          r14 := okI o14
          r18 := okI o18
          a1 := blk_ne hh8 hh14 (by decide)
          a2 := blk_ne hh8 hh18 (by decide)
          a3 := fun e => hne g14 (by simp [Value.ownBlock]) (by simp [Value.ownBlock, show g18 = g14 from e.symm])
          ag := fun hk => by
            rcases hk with e | e | e
            · exact blk_ne hh hh8 (by decide) e
            · exact blk_ne hh hh14 (by decide) e
            · exact blk_ne hh hh18 (by decide) e
          hc := hc0
          hn := ⟨hpos, hl0⟩ }
theorem cellsB {w : World} {base g n cap : Nat} {ok : Nat → Prop} {xs : List Bool} (h : Kd.R Kd.bool 4 w base ok (.slice (some ⟨g, 0, none⟩) n cap) xs) (h1 : 1 ≤ xs.length) : ∃ cur, w.heap[g]? = some (.cells cur 4 (0, 0)) := by
  obtain ⟨g', c', cu, e, _, hh⟩ := blockB h h1
  simp only [Value.slice.injEq, Option.some.injEq, Addr.mk.injEq] at e
  obtain ⟨⟨rfl, _⟩, _⟩ := e
  exact ⟨cu, hh⟩
theorem cellsI {w : World} {base g n cap : Nat} {ok : Nat → Prop} {xs : List Int} (h : Kd.R (Kd.int .i64) 3 w base ok (.slice (some ⟨g, 0, none⟩) n cap) xs) (h1 : 1 ≤ xs.length) : ∃ cur, w.heap[g]? = some (.cells cur 3 (0, 0)) := by
  obtain ⟨g', c', cu, e, _, hh⟩ := blockI h h1
  simp only [Value.slice.injEq, Option.some.injEq, Addr.mk.injEq] at e
  obtain ⟨⟨rfl, _⟩, _⟩ := e
  exact ⟨cu, hh⟩
theorem kept_iter (w : World) (k : Nat) (t : ByteArray) (pos : Nat) : Kept w (w.iterAt k t pos) (fun j => j = k) := ⟨Nat.le_of_eq (Lib.iterAt_size w k t pos).symm, fun i _ hn => Lib.iterAt_other w k i t pos hn⟩
theorem Pas.notIter {T b : Nat} {p : PA} {s : PS} {w : World} (h : Pas T b p s w) {k : Nat} {t : ByteArray} {pos : Nat} (hk : w.heap[k]? = some (.stringIter t pos)) : ¬ p.S k := by
  obtain ⟨l8, l14, l18⟩ := h.len
  have hn := h.hn.1
  obtain ⟨_, h8⟩ := cellsB h.r8 (by omega)
  obtain ⟨_, h14⟩ := cellsI h.r14 (by omega)
  obtain ⟨_, h18⟩ := cellsI h.r18 (by omega)
  rintro (e | e | e)
  · rw [e, h8] at hk; cases Option.some.inj hk
  · rw [e, h14] at hk; cases Option.some.inj hk
  · rw [e, h18] at hk; cases Option.some.inj hk
theorem Pas.iter {T b : Nat} {p : PA} {s : PS} {w : World} (h : Pas T b p s w) {k : Nat} {t : ByteArray} {pos : Nat} (hk : w.heap[k]? = some (.stringIter t pos)) (pos' : Nat) {g5 : Nat} (hA : p.A5 = some ⟨g5, 0, none⟩) (h5 : Kd.R (Kd.int .i64) 3 w b (fun k => k = g5) (.slice (some ⟨g5, 0, none⟩) p.n p.c5) s.lf) (n5 : ¬ p.S g5) : Pas T b p s (w.iterAt k t pos') ∧ Kd.R (Kd.int .i64) 3 (w.iterAt k t pos') b (fun k => k = g5) (.slice (some ⟨g5, 0, none⟩) p.n p.c5) s.lf := by
  have K := kept_iter w k t pos'
  have hs := h.notIter hk
  have hn := h.hn.1
  have hl5 := (Kd.R_reads' h5).1
  have hg : ¬ (p.g = k) := fun e => by rw [← e, h.box] at hk; cases Option.some.inj hk
  have hg5 : ¬ (g5 = k) := fun e => by
    obtain ⟨_, h5'⟩ := cellsI h5 (by omega)
    rw [← e, h5'] at hk; cases Option.some.inj hk
  have R5 := Kd.R_kept h5 K (fun j hj => by rw [hj]; exact hg5)
  exact ⟨{ h with box := blk_kept h.box K hg, lf := by rw [hA]; exact Kd.C_kept_own R5 (fun j hj => by rw [hj]; exact n5), r8 := Kd.R_kept h.r8 K (fun j hj e => hs (.inl (by rw [← e, hj]))), r14 := Kd.R_kept h.r14 K (fun j hj e => hs (.inr (.inl (by rw [← e, hj])))), r18 := Kd.R_kept h.r18 K (fun j hj e => hs (.inr (.inr (by rw [← e, hj])))) }, R5⟩
/-- the ships of a traffic, one behind the other -/
def runS (n : Nat) : List UInt8 → PS → PS
  | [], s => s
  | c :: t, s => runS n t (shipS (decide (c = 117)) n n 0 s)
theorem runS_lf (n : Nat) : ∀ (l : List UInt8) (s : PS), (runS n l s).lf = s.lf
  | [], _ => rfl
  | c :: t, s => by unfold runS; rw [runS_lf n t, shipS_lf]
theorem runS_at (n : Nat) (t : ByteArray) (pos : Nat) (h : pos < t.size) (s : PS) : runS n (t.data.toList.drop pos) s = runS n (t.data.toList.drop (pos + 1)) (shipS (decide (t[pos]'h = 117)) n n 0 s) := by
  have hn : t.data.toList.length = t.size := rfl
  rw [List.drop_eq_getElem_cons (by omega)]
  rfl
theorem runS_end (n : Nat) (t : ByteArray) (pos : Nat) (h : ¬ pos < t.size) (s : PS) : runS n (t.data.toList.drop pos) s = s := by
  have hn : t.data.toList.length = t.size := rfl
  rw [List.drop_eq_nil_of_le (by omega)]
  rfl
set_option maxHeartbeats 1000000 in
set_option maxRecDepth 100000 in
theorem specRun.calls (A0_0 : Option Addr) (c0_0 : Nat) (l0_0 : List Int) (A0_1 : Option Addr) (c0_1 : Nat) (l0_1 : List Bool) (a1 : ByteArray) (w : World) (hr0 : Kd.C (Kd.int .i64) w A0_0 l0_0.length l0_0) (hc0 : l0_0.length ≤ c0_0) (hr1 : Kd.C Kd.bool w A0_1 l0_1.length l0_1) (hc1 : l0_1.length ≤ c0_1) (hs : a1.size ≤ 40) (hg : l0_1.length = l0_0.length ∧ 1 ≤ l0_0.length ∧ l0_0.length ≤ 1000) :
    Calls Tryd.prog 36 #[.agg #[.slice A0_0 l0_0.length c0_0, .slice A0_1 l0_1.length c0_1], .string a1] w fun e w' => ∃ p : PA, e = .returned (.pointer (some ⟨p.g, 0, none⟩)) ∧ p.n = l0_0.length ∧ Pas 54 w.heap.size p (runS l0_0.length a1.data.toList (newS l0_0 l0_1)) w' ∧ Below w.heap.size w w' := by
  have HA := Aside0.mk (below_alloc (Below.refl w.heap.size w) (.cells #[.slice A0_0 l0_0.length c0_0, .slice A0_1 l0_1.length c0_1] 30))
  have hP := Aside0.mk (fun (W : World) (hb : Below w.heap.size w W) => loNew.calls A0_0 c0_0 l0_0 _ c0_1 l0_1 W (Kd.C_below hr0 hb) hc0 (Kd.C_below hr1 hb) hc1 hg.2.2 (by have := hg.1; have := hg.2.2; omega) hg.1 hg.2.1)
  have HS := Aside0.mk hs
  clear hr0 hc0 hr1 hc1 hs hg
  go_enter Tryd.func36, Tryd.ntmps36
  go_wp2_with (go_at_call 51; refine (hP.out _ HA.out).mono ?_; rintro e w1 ⟨⟨g, A5, c5, g8, c8, g14, c14, g18, c18, n⟩, rfl, en, hg, hp, hb⟩; dsimp only at en hg hp; subst en; have HB0 := Aside0.mk (below_then HA.out HA.out.size hb); have PP := Aside0.mk (hp.lower HA.out.size); clear hb hg hp)
  clear hP
  go_loopg [6] a1.size (fun gg s6 wr => ∃ (x : Int) (pos : Nat) (s' : PS), s6 = .int .i64 x ∧ Aside0 (x = (pos : Int)) ∧ Aside0 (pos ≤ a1.size) ∧ Aside0 (a1.size - pos ≤ gg) ∧ Aside0 (Pas 54 w.heap.size ⟨g, A5, c5, g8, c8, g14, c14, g18, c18, l0_0.length⟩ s' wr) ∧ Aside0 (runS l0_0.length (a1.data.toList.drop pos) s' = runS l0_0.length a1.data.toList (newS l0_0 l0_1)) ∧ Aside0 (Below w.heap.size w wr))
  case atStart => exact ⟨0, 0, newS l0_0 l0_1, rfl, ⟨rfl⟩, ⟨Nat.zero_le _⟩, ⟨Nat.le_of_eq (Nat.sub_zero _)⟩, PP, ⟨rfl⟩, HB0⟩
  case round =>
    clear PP HB0 HA
    obtain ⟨x, pos, s', rfl, HX, HPo, HG, HP, HE, HB⟩ := hrel
    have hx := HX.out
    by_cases hp : pos < a1.size
    · have c3 : decide (x < (a1.size : Int)) = true := decide_eq_true (by omega)
      have p5 : (0 ≤ x) = True := eq_true (by omega)
      have q5 : (x < (a1.size : Int)) = True := eq_true (by omega)
      have hx5 := bt_at a1 x
      have hbt : bt a1 x = ((a1[pos]'hp).toNat : Int) := by rw [hx]; exact (bt_at a1 (pos : Int) (by simpa using hp)).symm.trans (by simp)
      have hE1 := (runS_at l0_0.length a1 pos hp s').symm.trans HE.out
      have HW := Aside0.mk (show wrap64 (x + 1) = ((pos + 1 : Nat) : Int) by rw [hx]; have := HS.out; unfold wrap64; omega)
      have HP2 := Aside0.mk hp
      by_cases e1 : a1[pos]'hp = 117
      · have c6b0 : ((bt a1 x) == 117) = true := beq_iff_eq.mpr (by rw [hbt, e1]; rfl)
        have c6b1 : decide ((bt a1 x) = 117) = true := decide_eq_true (by rw [hbt, e1]; rfl)
        have hcall := Aside0.mk (sship.calls w _ _ true _ HP.out HB.out)
        have HE1 := Aside0.mk (show runS l0_0.length (a1.data.toList.drop (pos + 1)) (shipS true l0_0.length l0_0.length 0 s') = runS l0_0.length a1.data.toList (newS l0_0 l0_1) by rw [decide_eq_true e1] at hE1; exact hE1)
        clear hE1 hp e1 hbt HP HE HB hx HX HPo
        go_wp2_with (go_at_call 52; refine hcall.out.mono ?_; rintro e w4 ⟨rfl, p4, b4, k4⟩; have P4 := Aside0.mk p4; have B4 := Aside0.mk b4; clear p4 b4 k4)
        go_roundg (a1.size - (pos + 1))
        case measure => have := HG.out; have := HP2.out; omega
        case rel => exact ⟨_, pos + 1, _, rfl, HW, ⟨HP2.out⟩, ⟨Nat.le_refl _⟩, P4, HE1, B4⟩
      · have c6b0 : ((bt a1 x) == 117) = false := beq_eq_false_iff_ne.mpr (fun e => e1 (by rw [hbt] at e; exact UInt8.toNat_inj.mp (by have h_ : (117 : UInt8).toNat = 117 := rfl; omega)))
        have c6b1 : decide ((bt a1 x) = 117) = false := decide_eq_false (fun e => e1 (by rw [hbt] at e; exact UInt8.toNat_inj.mp (by have h_ : (117 : UInt8).toNat = 117 := rfl; omega)))
        have hcall := Aside0.mk (sship.calls w _ _ false _ HP.out HB.out)
        have HE1 := Aside0.mk (show runS l0_0.length (a1.data.toList.drop (pos + 1)) (shipS false l0_0.length l0_0.length 0 s') = runS l0_0.length a1.data.toList (newS l0_0 l0_1) by rw [decide_eq_false e1] at hE1; exact hE1)
        clear hE1 hp e1 hbt HP HE HB hx HX HPo
        go_wp2_with (go_at_call 52; refine hcall.out.mono ?_; rintro e w4 ⟨rfl, p4, b4, k4⟩; have P4 := Aside0.mk p4; have B4 := Aside0.mk b4; clear p4 b4 k4)
        go_roundg (a1.size - (pos + 1))
        case measure => have := HG.out; have := HP2.out; omega
        case rel => exact ⟨_, pos + 1, _, rfl, HW, ⟨HP2.out⟩, ⟨Nat.le_refl _⟩, P4, HE1, B4⟩
    · have c3 : decide (x < (a1.size : Int)) = false := decide_eq_false (by omega)
      have HE1 := Aside0.mk ((runS_end l0_0.length a1 pos hp s').symm.trans HE.out)
      clear hp hx
      go_wp2
      go_ret
      exact ⟨_, rfl, rfl, by rw [← HE1.out]; exact HP.out, HB.out⟩

end Go.Proofs.YtmedapafllmhjaaDoor.PFnExactStretchChanges

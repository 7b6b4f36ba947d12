/- Lean functions of the Go functions that the law FnExactRunShip reaches, and the proofs that the calls come to what they say (made by program). -/
import Derived.Test.YtmedapafllmhjaaPFnExactRunShipx0
import Derived.Test.YtmedapafllmhjaaPFnExactRunShipx2
namespace Go.Proofs.Ytmedapafllmhjaa.PFnExactRunShip
open Go.RowKit Go.Proofs.YtmedapafllmhjaaW.PrintWords Go.Proofs.YtmedapafllmhjaaW.PrintLast Go.Proofs.YtmedapafllmhjaaW.PrintMore
attribute [local go_sem] max2_int min2_int max_two min_two max_three min_three max_four min_four   -- for this text's walks alone
set_option linter.unusedVariables false
set_option linter.unusedSimpArgs false

/-! ### spec_RunShip: function 27 -/
/-- where a state lies: a box of four rows -/
structure PA where
  g : Nat
  A5 : Option Addr
  c5 : Nat
  g8 : Nat
  c8 : Nat
  g14 : Nat
  c14 : Nat
  g18 : Nat
  c18 : Nat
  n : Nat
/-- what it holds -/
structure PS where
  lf : List Int
  fu : List Bool
  ch : List Int
  fi : List Int
/-- the blocks that are written -/
def PA.S (p : PA) (k : Nat) : Prop := k = p.g8 ∨ k = p.g14 ∨ k = p.g18
structure Pas (T b : Nat) (p : PA) (s : PS) (w : World) : Prop where
  box : w.heap[p.g]? = some (.cells #[.slice p.A5 p.n p.c5, .slice (some ⟨p.g8, 0, none⟩) p.n p.c8, .slice (some ⟨p.g14, 0, none⟩) (p.n + 1) p.c14, .slice (some ⟨p.g18, 0, none⟩) p.n p.c18] T (0, 0))
  lf : ∀ W, Kept w W p.S → Kd.C (Kd.int .i64) W p.A5 p.n s.lf
  r8 : Kd.R Kd.bool 4 w b (fun k => k = p.g8) (.slice (some ⟨p.g8, 0, none⟩) p.n p.c8) s.fu
  r14 : Kd.R (Kd.int .i64) 3 w b (fun k => k = p.g14) (.slice (some ⟨p.g14, 0, none⟩) (p.n + 1) p.c14) s.ch
  r18 : Kd.R (Kd.int .i64) 3 w b (fun k => k = p.g18) (.slice (some ⟨p.g18, 0, none⟩) p.n p.c18) s.fi
  a1 : p.g8 ≠ p.g14
  a2 : p.g8 ≠ p.g18
  a3 : p.g14 ≠ p.g18
  ag : ¬ p.S p.g
  hc : p.n ≤ p.c5
  hn : 1 ≤ p.n ∧ p.n ≤ 1000
def putS (s : PS) (i : Int) (full : Bool) : PS :=
  if rdOf false s.fu i = full then s else if full = true then { lf := s.lf, fu := s.fu.set i.toNat full, ch := s.ch.set (i + 1).toNat (wrap64 (rd s.ch (i + 1) - rd s.lf i)), fi := s.fi.set i.toNat (wrap64 (rd s.fi i + 1)) } else { lf := s.lf, fu := s.fu.set i.toNat full, ch := s.ch.set i.toNat (wrap64 (rd s.ch i + rd s.lf i)), fi := s.fi }
def passS (s : PS) (i : Int) (up : Bool) : PS := putS (putS s i (!up)) i up
/-- the locks k, k + 1, .. of m -/
def shipS (up : Bool) (n : Nat) : Nat → Nat → PS → PS
  | 0, _, s => s
  | m + 1, k, s => shipS up n m (k + 1) (passS s (if up = true then (k : Int) else (n : Int) - 1 - (k : Int)) up)
theorem okI {w : World} {base g n cap : Nat} {ok : Nat → Prop} {xs : List Int} (h : Kd.R (Kd.int .i64) 3 w base ok (.slice (some ⟨g, 0, none⟩) n cap) xs) : Kd.R (Kd.int .i64) 3 w base (fun k => k = g) (.slice (some ⟨g, 0, none⟩) n cap) xs :=
  Kd.R_of_own (enc := Value.int .i64) (h1 := fun _ => rfl) (by obtain ⟨e_, _⟩ := Kd.R_reads' h; subst e_; exact Kd.own_of_R (enc := Value.int .i64) (h1 := fun _ => rfl) h) (fun k hk => by simp [Value.ownBlock] at hk; exact hk.symm)
theorem okB {w : World} {base g n cap : Nat} {ok : Nat → Prop} {xs : List Bool} (h : Kd.R Kd.bool 4 w base ok (.slice (some ⟨g, 0, none⟩) n cap) xs) : Kd.R Kd.bool 4 w base (fun k => k = g) (.slice (some ⟨g, 0, none⟩) n cap) xs :=
  Kd.R_of_own (enc := Value.bool) (h1 := fun _ => rfl) (by obtain ⟨e_, _⟩ := Kd.R_reads' h; subst e_; exact Kd.own_of_R (enc := Value.bool) (h1 := fun _ => rfl) h) (fun k hk => by simp [Value.ownBlock] at hk; exact hk.symm)
theorem blockI {w : World} {base : Nat} {ok : Nat → Prop} {v : Value} {xs : List Int} (h : Kd.R (Kd.int .i64) 3 w base ok v xs) (h1 : 1 ≤ xs.length) : ∃ g cap cur, v = .slice (some ⟨g, 0, none⟩) xs.length cap ∧ base ≤ g ∧ w.heap[g]? = some (.cells cur 3 (0, 0)) := by
  obtain ⟨_, ⟨_, h0⟩ | ⟨g, cap, cur, hv, hg, hh, _⟩⟩ := Kd.own_of_R (enc := Value.int .i64) (h1 := fun _ => rfl) h
  · omega
  · exact ⟨g, cap, cur, hv, hg, hh⟩
theorem blockB {w : World} {base : Nat} {ok : Nat → Prop} {v : Value} {xs : List Bool} (h : Kd.R Kd.bool 4 w base ok v xs) (h1 : 1 ≤ xs.length) : ∃ g cap cur, v = .slice (some ⟨g, 0, none⟩) xs.length cap ∧ base ≤ g ∧ w.heap[g]? = some (.cells cur 4 (0, 0)) := by
  obtain ⟨_, ⟨_, h0⟩ | ⟨g, cap, cur, hv, hg, hh, _⟩⟩ := Kd.own_of_R (enc := Value.bool) (h1 := fun _ => rfl) h
  · omega
  · exact ⟨g, cap, cur, hv, hg, hh⟩
theorem hw_new0 (w : World) (o : Obj) : (w.alloc o).heap[w.heap.size]? = some o := by unfold World.alloc; exact Array.getElem?_push_size
theorem hw_new2 (w : World) (o p : Obj) : ((w.alloc o).alloc p).heap[w.heap.size]? = some o := blk_alloc (hw_new0 w o) p
theorem hw_new1 (w : World) (o p : Obj) : ((w.alloc o).alloc p).heap[w.heap.size + 1]? = some p := by have := hw_new0 (w.alloc o) p; rwa [World.size_alloc] at this
/-- the state at first -/
def newS (l : List Int) (m : List Bool) : PS := { lf := l, fu := m, ch := List.replicate (l.length + 1) (0 : Int), fi := List.replicate l.length (0 : Int) }
theorem putS_lf (s : PS) (i : Int) (b : Bool) : (putS s i b).lf = s.lf := by unfold putS; split; rfl; split <;> rfl
theorem passS_lf (s : PS) (i : Int) (b : Bool) : (passS s i b).lf = s.lf := by unfold passS; rw [putS_lf, putS_lf]
theorem shipS_lf (up : Bool) (n : Nat) : ∀ (m k : Nat) (s : PS), (shipS up n m k s).lf = s.lf
  | 0, _, _ => rfl
  | m + 1, k, s => by unfold shipS; rw [shipS_lf up n m, passS_lf]
section
variable {T b : Nat} {p : PA} {s : PS} {w : World}
theorem Pas.cells (h : Pas T b p s w) : w.cell? ⟨p.g, 0, none⟩ = some (.slice p.A5 p.n p.c5) ∧ w.cell? ⟨p.g, 1, none⟩ = some (.slice (some ⟨p.g8, 0, none⟩) p.n p.c8) ∧ w.cell? ⟨p.g, 2, none⟩ = some (.slice (some ⟨p.g14, 0, none⟩) (p.n + 1) p.c14) ∧ w.cell? ⟨p.g, 3, none⟩ = some (.slice (some ⟨p.g18, 0, none⟩) p.n p.c18) :=
  ⟨(blk_cell h.box 0).trans rfl, (blk_cell h.box 1).trans rfl, (blk_cell h.box 2).trans rfl, (blk_cell h.box 3).trans rfl⟩
theorem Pas.at5 (h : Pas T b p s w) (i : Int) (h0 : 0 ≤ i) (h1 : i < p.n) : ∃ ad, p.A5 = some ad ∧ w.cell? (ad.add i.toNat) = some (.int .i64 (rd s.lf i)) := Kd.at_int (h.lf w (Kept.refl _ _)) i h0 h1
theorem Pas.at8 (h : Pas T b p s w) (i : Int) (h0 : 0 ≤ i) (h1 : i < p.n) : w.cell? ⟨p.g8, i.toNat, none⟩ = some (.bool (rdOf false s.fu i)) ∧ w.frozen? ⟨p.g8, i.toNat, none⟩ = false := Kd.R_celln (enc := Value.bool) (h1 := fun _ => rfl) false h.r8 i h0 h1
theorem Pas.at14 (h : Pas T b p s w) (i : Int) (h0 : 0 ≤ i) (h1 : i < ((p.n + 1 : Nat) : Int)) : w.cell? ⟨p.g14, i.toNat, none⟩ = some (.int .i64 (rd s.ch i)) ∧ w.frozen? ⟨p.g14, i.toNat, none⟩ = false := Kd.R_celln (enc := Value.int .i64) (h1 := fun _ => rfl) (0 : Int) h.r14 i h0 h1
theorem Pas.at18 (h : Pas T b p s w) (i : Int) (h0 : 0 ≤ i) (h1 : i < p.n) : w.cell? ⟨p.g18, i.toNat, none⟩ = some (.int .i64 (rd s.fi i)) ∧ w.frozen? ⟨p.g18, i.toNat, none⟩ = false := Kd.R_celln (enc := Value.int .i64) (h1 := fun _ => rfl) (0 : Int) h.r18 i h0 h1
theorem Pas.len (h : Pas T b p s w) : s.fu.length = p.n ∧ s.ch.length = p.n + 1 ∧ s.fi.length = p.n := ⟨(Kd.R_reads' h.r8).1.symm, (Kd.R_reads' h.r14).1.symm, (Kd.R_reads' h.r18).1.symm⟩
theorem Pas.below (h : Pas T b p s w) {W : World} (hb : Below w.heap.size w W) : Pas T b p s W :=
  { h with box := blk_below h.box hb, lf := fun W' hk => h.lf W' ((Kept.of_below hb p.S).then_ hk (fun _ h => .inl h)), r8 := Kd.R_below h.r8 hb, r14 := Kd.R_below h.r14 hb, r18 := Kd.R_below h.r18 hb }
theorem Pas.drew (h : Pas T b p s w) : Pas T b p s w.drew := h.below (below_drew (Below.refl _ _))
theorem Pas.alloc (h : Pas T b p s w) (o : Obj) : Pas T b p s (w.alloc o) := h.below (below_alloc (Below.refl _ _) o)
/-- a block of the caller's own has been written -/
theorem Pas.far (h : Pas T b p s w) {g T' : Nat} {cs : Array Value} (hb : w.heap[g]? = some (.cells cs T' (0, 0))) (h4 : 4 ≠ T') (h3 : 3 ≠ T') (hT : T ≠ T') (hlf : ∀ W, Kept w W (fun k => p.S k ∨ k = g) → Kd.C (Kd.int .i64) W p.A5 p.n s.lf) (j : Nat) (u : Value) : Pas T b p s (w.setCell ⟨g, j, none⟩ u) :=
  { h with
    box := blk_far h.box (blk_ne h.box hb hT) u
    lf := fun W hk => hlf W (((Kept.refl w (fun k => p.S k ∨ k = g)).setCell (p := ⟨g, j, none⟩) (.inl (.inr rfl)) u).then_ hk (fun _ h => .inl (.inl h)))
    r8 := Kd.R_set h.r8 hb (fun q hq => by simp [Kd.bool, Kd.scalar] at hq; rw [hq]; exact h4) j u
    r14 := Kd.R_set h.r14 hb (fun q hq => by simp [Kd.int, Kd.scalar] at hq; rw [hq]; exact h3) j u
    r18 := Kd.R_set h.r18 hb (fun q hq => by simp [Kd.int, Kd.scalar] at hq; rw [hq]; exact h3) j u }
theorem Pas.put8 (h : Pas T b p s w) (i : Int) (x : Bool) : Pas T b p { s with fu := s.fu.set i.toNat x } (w.setCell ⟨p.g8, i.toNat, none⟩ (.bool x)) ∧ Kept w (w.setCell ⟨p.g8, i.toNat, none⟩ (.bool x)) p.S := by
  have P := Kd.R_putg (enc := Value.bool) (h1 := fun _ => rfl) h.r8 i x
  have K : Kept w (w.setCell ⟨p.g8, i.toNat, none⟩ (.bool x)) p.S := (Kept.refl w p.S).setCell (p := ⟨p.g8, i.toNat, none⟩) (.inl (.inl rfl)) _
  exact ⟨{ h with box := blk_kept h.box K h.ag, lf := fun W hk => h.lf W (K.then_ hk (fun _ h => .inl h)), r8 := P.1, r14 := Kd.R_grown h.r14 P.2 (fun k hk e => h.a1 (by have h_ := Option.some.inj e; omega)), r18 := Kd.R_grown h.r18 P.2 (fun k hk e => h.a2 (by have h_ := Option.some.inj e; omega)) }, K⟩
theorem Pas.put14 (h : Pas T b p s w) (i : Int) (x : Int) : Pas T b p { s with ch := s.ch.set i.toNat x } (w.setCell ⟨p.g14, i.toNat, none⟩ (.int .i64 x)) ∧ Kept w (w.setCell ⟨p.g14, i.toNat, none⟩ (.int .i64 x)) p.S := by
  have P := Kd.R_putg (enc := Value.int .i64) (h1 := fun _ => rfl) h.r14 i x
  have K : Kept w (w.setCell ⟨p.g14, i.toNat, none⟩ (.int .i64 x)) p.S := (Kept.refl w p.S).setCell (p := ⟨p.g14, i.toNat, none⟩) (.inl (.inr (.inl rfl))) _
  exact ⟨{ h with box := blk_kept h.box K h.ag, lf := fun W hk => h.lf W (K.then_ hk (fun _ h => .inl h)), r14 := P.1, r8 := Kd.R_grown h.r8 P.2 (fun k hk e => h.a1 (by have h_ := Option.some.inj e; omega)), r18 := Kd.R_grown h.r18 P.2 (fun k hk e => h.a3 (by have h_ := Option.some.inj e; omega)) }, K⟩
theorem Pas.put18 (h : Pas T b p s w) (i : Int) (x : Int) : Pas T b p { s with fi := s.fi.set i.toNat x } (w.setCell ⟨p.g18, i.toNat, none⟩ (.int .i64 x)) ∧ Kept w (w.setCell ⟨p.g18, i.toNat, none⟩ (.int .i64 x)) p.S := by
  have P := Kd.R_putg (enc := Value.int .i64) (h1 := fun _ => rfl) h.r18 i x
  have K : Kept w (w.setCell ⟨p.g18, i.toNat, none⟩ (.int .i64 x)) p.S := (Kept.refl w p.S).setCell (p := ⟨p.g18, i.toNat, none⟩) (.inl (.inr (.inr rfl))) _
  exact ⟨{ h with box := blk_kept h.box K h.ag, lf := fun W hk => h.lf W (K.then_ hk (fun _ h => .inl h)), r18 := P.1, r8 := Kd.R_grown h.r8 P.2 (fun k hk e => h.a2 (by have h_ := Option.some.inj e; omega)), r14 := Kd.R_grown h.r14 P.2 (fun k hk e => h.a3 (by have h_ := Option.some.inj e; omega)) }, K⟩
theorem Pas.notS (h : Pas T b p s w) {g T' : Nat} {cs : Array Value} (hb : w.heap[g]? = some (.cells cs T' (0, 0))) (h4 : 4 ≠ T') (h3 : 3 ≠ T') : ¬ p.S g := by
  rintro (e | e | e)
  · exact Kd.R_ne h.r8 hb h4 (by simp [Value.ownBlock, e])
  · exact Kd.R_ne h.r14 hb h3 (by simp [Value.ownBlock, e])
  · exact Kd.R_ne h.r18 hb h3 (by simp [Value.ownBlock, e])
theorem Pas.lower (h : Pas T b p s w) {b' : Nat} (hb : b' ≤ b) : Pas T b' p s w := { h with r8 := Kd.R_lower h.r8 hb, r14 := Kd.R_lower h.r14 hb, r18 := Kd.R_lower h.r18 hb }
theorem Pas.base (h : Pas T b p s w) : b ≤ p.g8 ∧ b ≤ p.g14 ∧ b ≤ p.g18 := ⟨Kd.R_base h.r8 p.g8 (by simp [Value.ownBlock]), Kd.R_base h.r14 p.g14 (by simp [Value.ownBlock]), Kd.R_base h.r18 p.g18 (by simp [Value.ownBlock])⟩
end
theorem apart_new {α β : Type} {d : Kd α} {d2 : Kd β} {e e2 : Nat} {W W2 : World} {b : Nat} {ok ok2 : Nat → Prop} {u v : Value} {xs : List α} {ys : List β} (h : Kd.R d e W b ok u xs) (h2 : Kd.R d2 e2 W2 W.heap.size ok2 v ys) : ∀ k, u.ownBlock = some k → v.ownBlock ≠ some k := by
  intro k hk hv
  have h1 := (Kd.R_bound h).1 k hk
  have h3 := Kd.R_base h2 k hv
  omega
set_option maxHeartbeats 8000000 in
set_option maxRecDepth 100000 in
theorem fill.calls (w0 : World) (p : PA) (s : PS) (i : Int) (w : World) (hP : Pas 67 w0.heap.size p s w) (hB : Below w0.heap.size w0 w) (h0 : 0 ≤ i) (h1 : i < (p.n : Int)) :
    Calls Try.prog 52 #[.pointer (some ⟨p.g, 0, none⟩), .int .i64 i] w fun e w' => e = .returned (.tuple #[]) ∧ Pas 67 w0.heap.size p (putS s i true) w' ∧ Below w0.heap.size w0 w' ∧ Kept w w' p.S := by
  obtain ⟨g, A5, c5, g8, c8, g14, c14, g18, c18, n⟩ := p
  have hn := hP.hn.2
  obtain ⟨b0, b1, b2, b3⟩ := hP.cells
  obtain ⟨h8, hf8⟩ := hP.at8 i h0 h1
  dsimp only at h1 hn b0 b1 b2 b3 h8 hf8 ⊢
  have q0 := eq_true h0
  have q1 := eq_true h1
  have q2 : (0 ≤ i + 1) = True := eq_true (by omega)
  have q3 : (i + 1 < (n : Int) + 1) = True := eq_true (by omega)
  have q4 : (i < (n : Int) + 1) = True := eq_true (by omega)
  have q5 : wrap64 (i + 1) = i + 1 := by unfold wrap64; omega
  by_cases hb : rdOf false s.fu i = true
  · have e1 : putS s i true = s := by unfold putS; rw [if_pos hb]
    rw [e1]
    rw [hb] at h8
    have HP := Aside0.mk hP
    have HB := Aside0.mk hB
    clear hP hB e1 hb b0 b2 b3 hf8
    go_enter Try.func52, Try.ntmps52
    go_wp2
    first | go_end0 | exact bodyPost_ret (v := .tuple #[]) (results_none rfl _ _ _) rfl ⟨rfl, HP.out, HB.out, Kept.refl _ _⟩ | go_ret
    all_goals exact ⟨rfl, HP.out, HB.out, Kept.refl _ _⟩
  · replace hb : rdOf false s.fu i = false := by cases hq : rdOf false s.fu i <;> simp_all
    rw [hb] at h8
    have hnb : ¬ rdOf false s.fu i = true := by rw [hb]; decide
    go_enter Try.func52, Try.ntmps52
    go_wp2
    have P1 := (hP.put8 i true).1
    have K1 := (hP.put8 i true).2
    have B1 := below_set (j := i.toNat) (v := .bool true) hB hP.base.1
    have e1 : putS s i true = { lf := s.lf, fu := s.fu.set i.toNat true, ch := s.ch.set (i + 1).toNat (wrap64 (rd s.ch (i + 1) - rd s.lf i)), fi := s.fi.set i.toNat (wrap64 (rd s.fi i + 1)) } := by unfold putS; rw [if_neg hnb]; rfl
    have E1 := Aside0.mk e1
    have HP0 := Aside0.mk hP
    clear e1 hnb hb h8 hf8 b0 b1 b2 b3 hP hB
    dsimp only at P1 K1 B1 ⊢
    generalize w.setCell ⟨g8, i.toNat, none⟩ (.bool true) = W1 at P1 K1 B1 ⊢
    obtain ⟨hx0, hx1, hx2, hx3⟩ := P1.drew.cells
    obtain ⟨hx14, hy14⟩ := P1.drew.at14 (i + 1) (by omega) (by dsimp only; omega)
    obtain ⟨ad, e5, hx5⟩ := P1.drew.at5 i (by omega) (by dsimp only; omega)
    dsimp only at hx0 hx1 hx2 hx3 hx14 hy14 e5 hx5
    subst e5
    replace P1 := Aside0.mk P1.drew
    replace B1 := Aside0.mk (below_drew B1)
    replace K1 := Aside0.mk K1.drew
    clear hx1 hx3
    refine start_ (n := 18) (S := fun w' => w'.cell? ⟨g, 0, none⟩ = some (.slice (some ad) n c5) ∧ w'.cell? ⟨g, 2, none⟩ = some (.slice (some ⟨g14, 0, none⟩) (n + 1) c14) ∧ w'.cell? ⟨g14, (i + 1).toNat, none⟩ = some (.int .i64 (rd s.ch (i + 1))) ∧ w'.cell? (ad.add i.toNat) = some (.int .i64 (rd s.lf i))) (ds := [17]) #[false, false, false, false, false, false, false, false, false, false, false, false, false, false, false, false, false, false] (by kernel_rfl) rfl rfl ⟨hx0, hx2, hx14, hx5⟩ (fun hHeld => ?_)
    generalize W1.drew = Wd at hx0 hx2 hx14 hx5 hy14 P1 B1 K1 hHeld ⊢
    refine pure_ (i := 0) (N := some 18) (v := ?_) (a' := ?_) #[true, false, false, false, false, false, false, false, false, false, false, false, false, false, false, false, false, false] rfl rfl (by kernel_rfl) (fun _ _ _ h => h) (Or.inl ⟨by rfl, ?_⟩) ?_ ?_
    rotate_left
    · intro w'
      go_simp
      with_reducible rfl
    rotate_left
    · simp only [Act.put, List.setIfInBounds_toArray, List.set_cons_zero, List.set_cons_succ, i64_w, i32_w]
      rfl
    refine pure_ (i := 1) (N := some 19) (v := ?_) (a' := ?_) #[true, true, false, false, false, false, false, false, false, false, false, false, false, false, false, false, false, false] rfl rfl (by kernel_rfl) (fun _ _ _ h => h) (Or.inl ⟨by rfl, ?_⟩) ?_ ?_
    rotate_left
    · intro w'
      go_simp
      with_reducible rfl
    rotate_left
    · simp only [Act.put, List.setIfInBounds_toArray, List.set_cons_zero, List.set_cons_succ, i64_w, i32_w]
      rfl
    refine pure_ (i := 2) (N := some 20) (v := ?_) (a' := ?_) #[true, true, true, false, false, false, false, false, false, false, false, false, false, false, false, false, false, false] rfl rfl (by kernel_rfl) (fun _ _ _ h => h) (Or.inl ⟨by rfl, ?_⟩) ?_ ?_
    rotate_left
    · intro w'
      go_simp
      with_reducible rfl
    rotate_left
    · simp only [Act.put, List.setIfInBounds_toArray, List.set_cons_zero, List.set_cons_succ, i64_w, i32_w]
      rfl
    refine pure_ (i := 4) (N := some 22) (v := ?_) (a' := ?_) #[true, true, true, false, true, false, false, false, false, false, false, false, false, false, false, false, false, false] rfl rfl (by kernel_rfl) (fun _ _ _ h => h) (Or.inl ⟨by rfl, ?_⟩) ?_ ?_
    rotate_left
    · intro w'
      go_simp
      with_reducible rfl
    rotate_left
    · simp only [Act.put, List.setIfInBounds_toArray, List.set_cons_zero, List.set_cons_succ, i64_w, i32_w]
      rfl
    refine pure_ (i := 5) (N := some 23) (v := ?_) (a' := ?_) #[true, true, true, false, true, true, false, false, false, false, false, false, false, false, false, false, false, false] rfl rfl (by kernel_rfl) (fun _ _ _ h => h) (Or.inl ⟨by rfl, ?_⟩) ?_ ?_
    rotate_left
    · intro w'
      go_simp
      with_reducible rfl
    rotate_left
    · simp only [Act.put, List.setIfInBounds_toArray, List.set_cons_zero, List.set_cons_succ, i64_w, i32_w]
      rfl
    refine pure_ (i := 8) (N := some 26) (v := ?_) (a' := ?_) #[true, true, true, false, true, true, false, false, true, false, false, false, false, false, false, false, false, false] rfl rfl (by kernel_rfl) (fun _ _ _ h => h) (Or.inl ⟨by rfl, ?_⟩) ?_ ?_
    rotate_left
    · intro w'
      go_simp
      with_reducible rfl
    rotate_left
    · simp only [Act.put, List.setIfInBounds_toArray, List.set_cons_zero, List.set_cons_succ, i64_w, i32_w]
      rfl
    refine pure_ (i := 9) (N := some 27) (v := ?_) (a' := ?_) #[true, true, true, false, true, true, false, false, true, true, false, false, false, false, false, false, false, false] rfl rfl (by kernel_rfl) (fun _ _ _ h => h) (Or.inl ⟨by rfl, ?_⟩) ?_ ?_
    rotate_left
    · intro w'
      go_simp
      with_reducible rfl
    rotate_left
    · simp only [Act.put, List.setIfInBounds_toArray, List.set_cons_zero, List.set_cons_succ, i64_w, i32_w]
      rfl
    refine pure_ (i := 10) (N := some 28) (v := ?_) (a' := ?_) #[true, true, true, false, true, true, false, false, true, true, true, false, false, false, false, false, false, false] rfl rfl (by kernel_rfl) (fun _ _ _ h => h) (Or.inl ⟨by rfl, ?_⟩) ?_ ?_
    rotate_left
    · intro w'
      go_simp
      with_reducible rfl
    rotate_left
    · simp only [Act.put, List.setIfInBounds_toArray, List.set_cons_zero, List.set_cons_succ, i64_w, i32_w]
      rfl
    refine pure_ (i := 12) (N := some 30) (v := ?_) (a' := ?_) #[true, true, true, false, true, true, false, false, true, true, true, false, true, false, false, false, false, false] rfl rfl (by kernel_rfl) (fun _ _ _ h => h) (Or.inl ⟨by rfl, ?_⟩) ?_ ?_
    rotate_left
    · intro w'
      go_simp
      with_reducible rfl
    rotate_left
    · simp only [Act.put, List.setIfInBounds_toArray, List.set_cons_zero, List.set_cons_succ, i64_w, i32_w]
      rfl
    refine take_ (i := 3) (N := some 21) (v := ?_) (a' := ?_) #[true, true, true, true, true, true, false, false, true, true, true, false, true, false, false, false, false, false] rfl rfl (by kernel_rfl) (fun _ _ _ h => h) (Or.inl ⟨by rfl, ?_⟩) hHeld ?_ ?_
    rotate_left
    · rintro w' ⟨s0, s1, s2, s3⟩
      go_simp
      with_reducible rfl
    rotate_left
    · simp only [Act.put, List.setIfInBounds_toArray, List.set_cons_zero, List.set_cons_succ, i64_w, i32_w]
      rfl
    refine pure_ (i := 6) (N := some 24) (v := ?_) (a' := ?_) #[true, true, true, true, true, true, true, false, true, true, true, false, true, false, false, false, false, false] rfl rfl (by kernel_rfl) (fun _ _ _ h => h) (Or.inl ⟨by rfl, ?_⟩) ?_ ?_
    rotate_left
    · intro w'
      go_simp
      with_reducible rfl
    rotate_left
    · simp only [Act.put, List.setIfInBounds_toArray, List.set_cons_zero, List.set_cons_succ, i64_w, i32_w]
      rfl
    refine take_ (i := 7) (N := some 25) (v := ?_) (a' := ?_) #[true, true, true, true, true, true, true, true, true, true, true, false, true, false, false, false, false, false] rfl rfl (by kernel_rfl) (fun _ _ _ h => h) (Or.inl ⟨by rfl, ?_⟩) hHeld ?_ ?_
    rotate_left
    · rintro w' ⟨s0, s1, s2, s3⟩
      go_simp
      with_reducible rfl
    rotate_left
    · simp only [Act.put, List.setIfInBounds_toArray, List.set_cons_zero, List.set_cons_succ, i64_w, i32_w]
      rfl
    refine take_ (i := 11) (N := some 29) (v := ?_) (a' := ?_) #[true, true, true, true, true, true, true, true, true, true, true, true, true, false, false, false, false, false] rfl rfl (by kernel_rfl) (fun _ _ _ h => h) (Or.inl ⟨by rfl, ?_⟩) hHeld ?_ ?_
    rotate_left
    · rintro w' ⟨s0, s1, s2, s3⟩
      go_simp
      with_reducible rfl
    rotate_left
    · simp only [Act.put, List.setIfInBounds_toArray, List.set_cons_zero, List.set_cons_succ, i64_w, i32_w]
      rfl
    refine pure_ (i := 13) (N := some 31) (v := ?_) (a' := ?_) #[true, true, true, true, true, true, true, true, true, true, true, true, true, true, false, false, false, false] rfl rfl (by kernel_rfl) (fun _ _ _ h => h) (Or.inl ⟨by rfl, ?_⟩) ?_ ?_
    rotate_left
    · intro w'
      go_simp
      with_reducible rfl
    rotate_left
    · simp only [Act.put, List.setIfInBounds_toArray, List.set_cons_zero, List.set_cons_succ, i64_w, i32_w]
      rfl
    refine take_ (i := 14) (N := some 32) (v := ?_) (a' := ?_) #[true, true, true, true, true, true, true, true, true, true, true, true, true, true, true, false, false, false] rfl rfl (by kernel_rfl) (fun _ _ _ h => h) (Or.inl ⟨by rfl, ?_⟩) hHeld ?_ ?_
    rotate_left
    · rintro w' ⟨s0, s1, s2, s3⟩
      go_simp
      with_reducible rfl
    rotate_left
    · simp only [Act.put, List.setIfInBounds_toArray, List.set_cons_zero, List.set_cons_succ, i64_w, i32_w]
      rfl
    refine pure_ (i := 15) (N := some 33) (v := ?_) (a' := ?_) #[true, true, true, true, true, true, true, true, true, true, true, true, true, true, true, true, false, false] rfl rfl (by kernel_rfl) (fun _ _ _ h => h) (Or.inl ⟨by rfl, ?_⟩) ?_ ?_
    rotate_left
    · intro w'
      go_simp
      with_reducible rfl
    rotate_left
    · simp only [Act.put, List.setIfInBounds_toArray, List.set_cons_zero, List.set_cons_succ, i64_w, i32_w]
      rfl
    refine pure_ (i := 16) (N := some 34) (v := ?_) (a' := ?_) #[true, true, true, true, true, true, true, true, true, true, true, true, true, true, true, true, true, false] rfl rfl (by kernel_rfl) (fun _ _ _ h => h) (Or.inl ⟨by rfl, ?_⟩) ?_ ?_
    rotate_left
    · intro w'
      go_simp
      with_reducible rfl
    rotate_left
    · simp only [Act.put, List.setIfInBounds_toArray, List.set_cons_zero, List.set_cons_succ, i64_w, i32_w]
      rfl
    refine last_ (i := 17) (N := none) #[true, true, true, true, true, true, true, true, true, true, true, true, true, true, true, true, true, true] rfl rfl (by kernel_rfl) (by decide) (fun K hK => ?_)
    refine skip_ (w1 := ?_) (by rfl) rfl ?_ ?_
    rotate_left
    · go_simp
      rfl
    refine hK.out _ _ ?_
    clear hK K
    refine done_ (by kernel_rfl) ?_
    replace P1 := P1.out
    replace B1 := B1.out
    replace K1 := K1.out
    clear hx0 hx2 hx14 hx5 hy14
    have P2 := (P1.put14 (i + 1) (wrap64 (rd s.ch (i + 1) - rd s.lf i))).1
    have K2 := K1.then_ (P1.put14 (i + 1) (wrap64 (rd s.ch (i + 1) - rd s.lf i))).2 (fun _ h => .inl h)
    have B2 := below_set (j := (i + 1).toNat) (v := .int .i64 (wrap64 (rd s.ch (i + 1) - rd s.lf i))) B1 P1.base.2.1
    clear P1 B1 K1
    dsimp only at P2 K2 B2
    generalize Wd.setCell ⟨g14, (i + 1).toNat, none⟩ (.int .i64 (wrap64 (rd s.ch (i + 1) - rd s.lf i))) = W2 at P2 K2 B2 ⊢
    obtain ⟨hx0, hx1, hx2, hx3⟩ := P2.cells
    obtain ⟨hx18, hy18⟩ := P2.at18 i (by omega) (by dsimp only; omega)
    dsimp only at hx0 hx1 hx2 hx3 hx18 hy18
    replace P2 := Aside0.mk P2
    replace B2 := Aside0.mk B2
    replace K2 := Aside0.mk K2
    clear hx0 hx1 hx2
    go_wp2
    go_end0
    rw [E1.out]
    exact ⟨rfl, (P2.out.put18 i (wrap64 (rd s.fi i + 1))).1, below_set (j := i.toNat) B2.out P2.out.base.2.2, K2.out.then_ (P2.out.put18 i (wrap64 (rd s.fi i + 1))).2 (fun _ h => .inl h)⟩
set_option maxHeartbeats 8000000 in
set_option maxRecDepth 100000 in
theorem empty.calls (w0 : World) (p : PA) (s : PS) (i : Int) (w : World) (hP : Pas 67 w0.heap.size p s w) (hB : Below w0.heap.size w0 w) (h0 : 0 ≤ i) (h1 : i < (p.n : Int)) :
    Calls Try.prog 49 #[.pointer (some ⟨p.g, 0, none⟩), .int .i64 i] w fun e w' => e = .returned (.tuple #[]) ∧ Pas 67 w0.heap.size p (putS s i false) w' ∧ Below w0.heap.size w0 w' ∧ Kept w w' p.S := by
  obtain ⟨g, A5, c5, g8, c8, g14, c14, g18, c18, n⟩ := p
  have hn := hP.hn.2
  obtain ⟨b0, b1, b2, b3⟩ := hP.cells
  obtain ⟨h8, hf8⟩ := hP.at8 i h0 h1
  dsimp only at h1 hn b0 b1 b2 b3 h8 hf8 ⊢
  have q0 := eq_true h0
  have q1 := eq_true h1
  have q2 : (0 ≤ i + 1) = True := eq_true (by omega)
  have q3 : (i + 1 < (n : Int) + 1) = True := eq_true (by omega)
  have q4 : (i < (n : Int) + 1) = True := eq_true (by omega)
  have q5 : wrap64 (i + 1) = i + 1 := by unfold wrap64; omega
  by_cases hb : rdOf false s.fu i = false
  · have e1 : putS s i false = s := by unfold putS; rw [if_pos hb]
    rw [e1]
    rw [hb] at h8
    have HP := Aside0.mk hP
    have HB := Aside0.mk hB
    clear hP hB e1 hb b0 b2 b3 hf8
    go_enter Try.func49, Try.ntmps49
    go_wp2
    first | go_end0 | exact bodyPost_ret (v := .tuple #[]) (results_none rfl _ _ _) rfl ⟨rfl, HP.out, HB.out, Kept.refl _ _⟩ | go_ret
    all_goals exact ⟨rfl, HP.out, HB.out, Kept.refl _ _⟩
  · replace hb : rdOf false s.fu i = true := by cases hq : rdOf false s.fu i <;> simp_all
    rw [hb] at h8
    have hnb : ¬ rdOf false s.fu i = false := by rw [hb]; decide
    go_enter Try.func49, Try.ntmps49
    go_wp2
    have P1 := (hP.put8 i false).1
    have K1 := (hP.put8 i false).2
    have B1 := below_set (j := i.toNat) (v := .bool false) hB hP.base.1
    have e1 : putS s i false = { lf := s.lf, fu := s.fu.set i.toNat false, ch := s.ch.set i.toNat (wrap64 (rd s.ch i + rd s.lf i)), fi := s.fi } := by unfold putS; rw [if_neg hnb]; rfl
    have E1 := Aside0.mk e1
    have HP0 := Aside0.mk hP
    clear e1 hnb hb h8 hf8 b0 b1 b2 b3 hP hB
    dsimp only at P1 K1 B1 ⊢
    generalize w.setCell ⟨g8, i.toNat, none⟩ (.bool false) = W1 at P1 K1 B1 ⊢
    obtain ⟨hx0, hx1, hx2, hx3⟩ := P1.drew.cells
    obtain ⟨hx14, hy14⟩ := P1.drew.at14 i (by omega) (by dsimp only; omega)
    obtain ⟨ad, e5, hx5⟩ := P1.drew.at5 i (by omega) (by dsimp only; omega)
    dsimp only at hx0 hx1 hx2 hx3 hx14 hy14 e5 hx5
    subst e5
    replace P1 := Aside0.mk P1.drew
    replace B1 := Aside0.mk (below_drew B1)
    replace K1 := Aside0.mk K1.drew
    clear hx1 hx3
    refine start_ (n := 17) (S := fun w' => w'.cell? ⟨g, 0, none⟩ = some (.slice (some ad) n c5) ∧ w'.cell? ⟨g, 2, none⟩ = some (.slice (some ⟨g14, 0, none⟩) (n + 1) c14) ∧ w'.cell? ⟨g14, i.toNat, none⟩ = some (.int .i64 (rd s.ch i)) ∧ w'.cell? (ad.add i.toNat) = some (.int .i64 (rd s.lf i))) (ds := [16]) #[false, false, false, false, false, false, false, false, false, false, false, false, false, false, false, false, false] (by kernel_rfl) rfl rfl ⟨hx0, hx2, hx14, hx5⟩ (fun hHeld => ?_)
    generalize W1.drew = Wd at hx0 hx2 hx14 hx5 hy14 P1 B1 K1 hHeld ⊢
    refine pure_ (i := 0) (N := some 17) (v := ?_) (a' := ?_) #[true, false, false, false, false, false, false, false, false, false, false, false, false, false, false, false, false] rfl rfl (by kernel_rfl) (fun _ _ _ h => h) (Or.inl ⟨by rfl, ?_⟩) ?_ ?_
    rotate_left
    · intro w'
      go_simp
      with_reducible rfl
    rotate_left
    · simp only [Act.put, List.setIfInBounds_toArray, List.set_cons_zero, List.set_cons_succ, i64_w, i32_w]
      rfl
    refine pure_ (i := 1) (N := some 18) (v := ?_) (a' := ?_) #[true, true, false, false, false, false, false, false, false, false, false, false, false, false, false, false, false] rfl rfl (by kernel_rfl) (fun _ _ _ h => h) (Or.inl ⟨by rfl, ?_⟩) ?_ ?_
    rotate_left
    · intro w'
      go_simp
      with_reducible rfl
    rotate_left
    · simp only [Act.put, List.setIfInBounds_toArray, List.set_cons_zero, List.set_cons_succ, i64_w, i32_w]
      rfl
    refine pure_ (i := 2) (N := some 19) (v := ?_) (a' := ?_) #[true, true, true, false, false, false, false, false, false, false, false, false, false, false, false, false, false] rfl rfl (by kernel_rfl) (fun _ _ _ h => h) (Or.inl ⟨by rfl, ?_⟩) ?_ ?_
    rotate_left
    · intro w'
      go_simp
      with_reducible rfl
    rotate_left
    · simp only [Act.put, List.setIfInBounds_toArray, List.set_cons_zero, List.set_cons_succ, i64_w, i32_w]
      rfl
    refine pure_ (i := 4) (N := some 21) (v := ?_) (a' := ?_) #[true, true, true, false, true, false, false, false, false, false, false, false, false, false, false, false, false] rfl rfl (by kernel_rfl) (fun _ _ _ h => h) (Or.inl ⟨by rfl, ?_⟩) ?_ ?_
    rotate_left
    · intro w'
      go_simp
      with_reducible rfl
    rotate_left
    · simp only [Act.put, List.setIfInBounds_toArray, List.set_cons_zero, List.set_cons_succ, i64_w, i32_w]
      rfl
    refine pure_ (i := 7) (N := some 24) (v := ?_) (a' := ?_) #[true, true, true, false, true, false, false, true, false, false, false, false, false, false, false, false, false] rfl rfl (by kernel_rfl) (fun _ _ _ h => h) (Or.inl ⟨by rfl, ?_⟩) ?_ ?_
    rotate_left
    · intro w'
      go_simp
      with_reducible rfl
    rotate_left
    · simp only [Act.put, List.setIfInBounds_toArray, List.set_cons_zero, List.set_cons_succ, i64_w, i32_w]
      rfl
    refine pure_ (i := 8) (N := some 25) (v := ?_) (a' := ?_) #[true, true, true, false, true, false, false, true, true, false, false, false, false, false, false, false, false] rfl rfl (by kernel_rfl) (fun _ _ _ h => h) (Or.inl ⟨by rfl, ?_⟩) ?_ ?_
    rotate_left
    · intro w'
      go_simp
      with_reducible rfl
    rotate_left
    · simp only [Act.put, List.setIfInBounds_toArray, List.set_cons_zero, List.set_cons_succ, i64_w, i32_w]
      rfl
    refine pure_ (i := 9) (N := some 26) (v := ?_) (a' := ?_) #[true, true, true, false, true, false, false, true, true, true, false, false, false, false, false, false, false] rfl rfl (by kernel_rfl) (fun _ _ _ h => h) (Or.inl ⟨by rfl, ?_⟩) ?_ ?_
    rotate_left
    · intro w'
      go_simp
      with_reducible rfl
    rotate_left
    · simp only [Act.put, List.setIfInBounds_toArray, List.set_cons_zero, List.set_cons_succ, i64_w, i32_w]
      rfl
    refine pure_ (i := 11) (N := some 28) (v := ?_) (a' := ?_) #[true, true, true, false, true, false, false, true, true, true, false, true, false, false, false, false, false] rfl rfl (by kernel_rfl) (fun _ _ _ h => h) (Or.inl ⟨by rfl, ?_⟩) ?_ ?_
    rotate_left
    · intro w'
      go_simp
      with_reducible rfl
    rotate_left
    · simp only [Act.put, List.setIfInBounds_toArray, List.set_cons_zero, List.set_cons_succ, i64_w, i32_w]
      rfl
    refine take_ (i := 3) (N := some 20) (v := ?_) (a' := ?_) #[true, true, true, true, true, false, false, true, true, true, false, true, false, false, false, false, false] rfl rfl (by kernel_rfl) (fun _ _ _ h => h) (Or.inl ⟨by rfl, ?_⟩) hHeld ?_ ?_
    rotate_left
    · rintro w' ⟨s0, s1, s2, s3⟩
      go_simp
      with_reducible rfl
    rotate_left
    · simp only [Act.put, List.setIfInBounds_toArray, List.set_cons_zero, List.set_cons_succ, i64_w, i32_w]
      rfl
    refine pure_ (i := 5) (N := some 22) (v := ?_) (a' := ?_) #[true, true, true, true, true, true, false, true, true, true, false, true, false, false, false, false, false] rfl rfl (by kernel_rfl) (fun _ _ _ h => h) (Or.inl ⟨by rfl, ?_⟩) ?_ ?_
    rotate_left
    · intro w'
      go_simp
      with_reducible rfl
    rotate_left
    · simp only [Act.put, List.setIfInBounds_toArray, List.set_cons_zero, List.set_cons_succ, i64_w, i32_w]
      rfl
    refine take_ (i := 6) (N := some 23) (v := ?_) (a' := ?_) #[true, true, true, true, true, true, true, true, true, true, false, true, false, false, false, false, false] rfl rfl (by kernel_rfl) (fun _ _ _ h => h) (Or.inl ⟨by rfl, ?_⟩) hHeld ?_ ?_
    rotate_left
    · rintro w' ⟨s0, s1, s2, s3⟩
      go_simp
      with_reducible rfl
    rotate_left
    · simp only [Act.put, List.setIfInBounds_toArray, List.set_cons_zero, List.set_cons_succ, i64_w, i32_w]
      rfl
    refine take_ (i := 10) (N := some 27) (v := ?_) (a' := ?_) #[true, true, true, true, true, true, true, true, true, true, true, true, false, false, false, false, false] rfl rfl (by kernel_rfl) (fun _ _ _ h => h) (Or.inl ⟨by rfl, ?_⟩) hHeld ?_ ?_
    rotate_left
    · rintro w' ⟨s0, s1, s2, s3⟩
      go_simp
      with_reducible rfl
    rotate_left
    · simp only [Act.put, List.setIfInBounds_toArray, List.set_cons_zero, List.set_cons_succ, i64_w, i32_w]
      rfl
    refine pure_ (i := 12) (N := some 29) (v := ?_) (a' := ?_) #[true, true, true, true, true, true, true, true, true, true, true, true, true, false, false, false, false] rfl rfl (by kernel_rfl) (fun _ _ _ h => h) (Or.inl ⟨by rfl, ?_⟩) ?_ ?_
    rotate_left
    · intro w'
      go_simp
      with_reducible rfl
    rotate_left
    · simp only [Act.put, List.setIfInBounds_toArray, List.set_cons_zero, List.set_cons_succ, i64_w, i32_w]
      rfl
    refine take_ (i := 13) (N := some 30) (v := ?_) (a' := ?_) #[true, true, true, true, true, true, true, true, true, true, true, true, true, true, false, false, false] rfl rfl (by kernel_rfl) (fun _ _ _ h => h) (Or.inl ⟨by rfl, ?_⟩) hHeld ?_ ?_
    rotate_left
    · rintro w' ⟨s0, s1, s2, s3⟩
      go_simp
      with_reducible rfl
    rotate_left
    · simp only [Act.put, List.setIfInBounds_toArray, List.set_cons_zero, List.set_cons_succ, i64_w, i32_w]
      rfl
    refine pure_ (i := 14) (N := some 31) (v := ?_) (a' := ?_) #[true, true, true, true, true, true, true, true, true, true, true, true, true, true, true, false, false] rfl rfl (by kernel_rfl) (fun _ _ _ h => h) (Or.inl ⟨by rfl, ?_⟩) ?_ ?_
    rotate_left
    · intro w'
      go_simp
      with_reducible rfl
    rotate_left
    · simp only [Act.put, List.setIfInBounds_toArray, List.set_cons_zero, List.set_cons_succ, i64_w, i32_w]
      rfl
    refine pure_ (i := 15) (N := some 32) (v := ?_) (a' := ?_) #[true, true, true, true, true, true, true, true, true, true, true, true, true, true, true, true, false] rfl rfl (by kernel_rfl) (fun _ _ _ h => h) (Or.inl ⟨by rfl, ?_⟩) ?_ ?_
    rotate_left
    · intro w'
      go_simp
      with_reducible rfl
    rotate_left
    · simp only [Act.put, List.setIfInBounds_toArray, List.set_cons_zero, List.set_cons_succ, i64_w, i32_w]
      rfl
    refine last_ (i := 16) (N := none) #[true, true, true, true, true, true, true, true, true, true, true, true, true, true, true, true, true] rfl rfl (by kernel_rfl) (by decide) (fun K hK => ?_)
    refine skip_ (w1 := ?_) (by rfl) rfl ?_ ?_
    rotate_left
    · go_simp
      rfl
    refine hK.out _ _ ?_
    clear hK K
    refine done_ (by kernel_rfl) ?_
    replace P1 := P1.out
    replace B1 := B1.out
    replace K1 := K1.out
    clear hx0 hx2 hx14 hx5 hy14
    have P2 := (P1.put14 i (wrap64 (rd s.ch i + rd s.lf i))).1
    have K2 := K1.then_ (P1.put14 i (wrap64 (rd s.ch i + rd s.lf i))).2 (fun _ h => .inl h)
    have B2 := below_set (j := i.toNat) (v := .int .i64 (wrap64 (rd s.ch i + rd s.lf i))) B1 P1.base.2.1
    clear P1 B1 K1
    dsimp only at P2 K2 B2
    generalize Wd.setCell ⟨g14, i.toNat, none⟩ (.int .i64 (wrap64 (rd s.ch i + rd s.lf i))) = W2 at P2 K2 B2 ⊢
    replace P2 := Aside0.mk P2
    replace B2 := Aside0.mk B2
    replace K2 := Aside0.mk K2
    go_wp2
    go_end0
    rw [E1.out]
    exact ⟨rfl, P2.out, B2.out, K2.out⟩
set_option maxHeartbeats 4000000 in
set_option maxRecDepth 100000 in
theorem spass.calls (w0 : World) (p : PA) (s : PS) (i : Int) (up : Bool) (w : World) (hP : Pas 67 w0.heap.size p s w) (hB : Below w0.heap.size w0 w) (h0 : 0 ≤ i) (h1 : i < (p.n : Int)) :
    Calls Try.prog 53 #[.pointer (some ⟨p.g, 0, none⟩), .int .i64 i, .bool up] w fun e w' => e = .returned (.tuple #[]) ∧ Pas 67 w0.heap.size p (passS s i up) w' ∧ Below w0.heap.size w0 w' ∧ Kept w w' p.S := by
  cases up with
  | true =>
    have hc := Aside0.mk (empty.calls w0 p s i w hP hB h0 h1)
    have hd := Aside0.mk (fun s' w' hP' hB' => fill.calls w0 p s' i w' hP' hB' h0 h1)
    clear hP hB h0 h1
    go_enter Try.func53, Try.ntmps53
    go_wp2_with (first | (go_at_call 49; (with_reducible refine hc.out.mono ?_); rintro e w1 ⟨rfl, p1, b1, k1⟩; have P1 := Aside0.mk p1; have B1 := Aside0.mk b1; have K1 := Aside0.mk k1; clear p1 b1 k1 hc) | (go_at_call 52; refine (hd.out _ _ P1.out B1.out).mono ?_; rintro e w2 ⟨rfl, p2, b2, k2⟩; have P2 := Aside0.mk p2; have B2 := Aside0.mk b2; have K2 := Aside0.mk (K1.out.then_ k2 (fun _ h => .inl h)); clear p2 b2 k2 hd))
    go_end0
    exact ⟨rfl, P2.out, B2.out, K2.out⟩
  | false =>
    have hc := Aside0.mk (fill.calls w0 p s i w hP hB h0 h1)
    have hd := Aside0.mk (fun s' w' hP' hB' => empty.calls w0 p s' i w' hP' hB' h0 h1)
    clear hP hB h0 h1
    go_enter Try.func53, Try.ntmps53
    go_wp2_with (first | (go_at_call 52; (with_reducible refine hc.out.mono ?_); rintro e w1 ⟨rfl, p1, b1, k1⟩; have P1 := Aside0.mk p1; have B1 := Aside0.mk b1; have K1 := Aside0.mk k1; clear p1 b1 k1 hc) | (go_at_call 49; refine (hd.out _ _ P1.out B1.out).mono ?_; rintro e w2 ⟨rfl, p2, b2, k2⟩; have P2 := Aside0.mk p2; have B2 := Aside0.mk b2; have K2 := Aside0.mk (K1.out.then_ k2 (fun _ h => .inl h)); clear p2 b2 k2 hd))
    go_end0
    exact ⟨rfl, P2.out, B2.out, K2.out⟩
set_option maxHeartbeats 4000000 in
set_option maxRecDepth 100000 in
theorem sship.calls (w0 : World) (p : PA) (s : PS) (up : Bool) (w : World) (hP : Pas 67 w0.heap.size p s w) (hB : Below w0.heap.size w0 w) :
    Calls Try.prog 56 #[.pointer (some ⟨p.g, 0, none⟩), .bool up] w fun e w' => e = .returned (.tuple #[]) ∧ Pas 67 w0.heap.size p (shipS up p.n p.n 0 s) w' ∧ Below w0.heap.size w0 w' ∧ Kept w w' p.S := by
  obtain ⟨hx0, _, _, _⟩ := hP.cells
  have hn := hP.hn.2
  have HP := Aside0.mk hP
  have HB := Aside0.mk hB
  clear hP hB
  obtain ⟨g, A5, c5, g8, c8, g14, c14, g18, c18, n⟩ := p
  dsimp only at hx0 hn ⊢
  go_enter Try.func56, Try.ntmps56
  go_wp2
  go_loopg [5] n (fun gg v5 wr => ∃ k : Nat, v5 = .int .i64 (k : Int) ∧ Aside0 (k ≤ n) ∧ Aside0 (n - k ≤ gg) ∧ Aside0 (∃ s', Pas 67 w0.heap.size ⟨g, A5, c5, g8, c8, g14, c14, g18, c18, n⟩ s' wr ∧ shipS up n (n - k) k s' = shipS up n n 0 s) ∧ Aside0 (Below w0.heap.size w0 wr) ∧ Aside0 (Kept w wr (PA.S ⟨g, A5, c5, g8, c8, g14, c14, g18, c18, n⟩)))
  case atStart => exact ⟨0, rfl, ⟨by omega⟩, ⟨by omega⟩, ⟨s, HP.out, rfl⟩, HB, ⟨Kept.refl _ _⟩⟩
  case round =>
    clear HP HB hx0
    obtain ⟨k, rfl, HK, HG, HS, HB, HKK⟩ := hrel
    obtain ⟨s', hP, hE⟩ := HS.out
    by_cases hlt : k < n
    · have c1 : decide ((k : Int) < (n : Int)) = true := decide_eq_true (by omega)
      have c3 : decide (k < n) = true := decide_eq_true (by omega)
      have HL := Aside0.mk hlt
      obtain ⟨hx0, _, _, _⟩ := hP.cells
      dsimp only at hx0
      have HE := Aside0.mk hE
      have e2 : n - k = (n - (k + 1)) + 1 := by omega
      rw [e2] at hE
      cases up with
      | true =>
        have hc := Aside0.mk (spass.calls w0 ⟨g, A5, c5, g8, c8, g14, c14, g18, c18, n⟩ s' (k : Int) true wr hP HB.out (by omega) (by dsimp only; omega))
        have HE2 := Aside0.mk (show shipS true n (n - (k + 1)) (k + 1) (passS s' (k : Int) true) = shipS true n n 0 s from hE)
        clear hE hP HS e2
        go_wp2_with (go_at_call 53; refine hc.out.mono ?_; rintro e w1 ⟨rfl, p1, b1, k1⟩; have P1 := Aside0.mk p1; have B1 := Aside0.mk b1; have K1 := Aside0.mk (HKK.out.then_ k1 (fun _ h => .inl h)); clear p1 b1 k1 hc)
        go_roundg (n - (k + 1))
        case measure => have := HG.out; have := HL.out; omega
        case rel => exact ⟨k + 1, by go_num, ⟨by have := HL.out; omega⟩, ⟨by omega⟩, ⟨_, P1.out, HE2.out⟩, B1, K1⟩
      | false =>
        have hc := Aside0.mk (spass.calls w0 ⟨g, A5, c5, g8, c8, g14, c14, g18, c18, n⟩ s' ((n : Int) - 1 - (k : Int)) false wr hP HB.out (by omega) (by dsimp only; omega))
        have HE2 := Aside0.mk (show shipS false n (n - (k + 1)) (k + 1) (passS s' ((n : Int) - 1 - (k : Int)) false) = shipS false n n 0 s from hE)
        clear hE hP HS e2
        go_wp2_with (go_at_call 53; refine hc.out.mono ?_; rintro e w1 ⟨rfl, p1, b1, k1⟩; have P1 := Aside0.mk p1; have B1 := Aside0.mk b1; have K1 := Aside0.mk (HKK.out.then_ k1 (fun _ h => .inl h)); clear p1 b1 k1 hc)
        go_roundg (n - (k + 1))
        case measure => have := HG.out; have := HL.out; omega
        case rel => exact ⟨k + 1, by go_num, ⟨by have := HL.out; omega⟩, ⟨by omega⟩, ⟨_, P1.out, HE2.out⟩, B1, K1⟩
    · have c1 : decide ((k : Int) < (n : Int)) = false := decide_eq_false (by omega)
      have c3 : decide (k < n) = false := decide_eq_false (by omega)
      have hk : k = n := by have := HK.out; omega
      have e2 : n - k = 0 := by omega
      rw [e2] at hE
      have HE := Aside0.mk (show s' = shipS up n n 0 s from hE)
      have HP := Aside0.mk hP
      clear hE hP HS e2 hk
      go_wp2
      go_end0
      exact ⟨rfl, by rw [← HE.out]; exact HP.out, HB.out, HKK.out⟩
theorem loNew_op2 : (opsOf Try.f48 2)[2]? = some { dst := (some 9), op := (Op.buildSlice 23 0 #[]), type := 23, pos := "l8_lock.go:38", after := #[], guard := none } := by kernel_rfl
theorem loNew_op11 : (opsOf Try.f48 2)[11]? = some { dst := (some 18), op := (Op.build 67 #[(0, (Operand.tmp 8)), (1, (Operand.tmp 12)), (2, (Operand.tmp 15)), (3, (Operand.tmp 17))]), type := 67, pos := "l8_lock.go:38", after := #[{ on := 1, ground := Ground.data }, { on := 5, ground := Ground.data }, { on := 8, ground := Ground.data }, { on := 10, ground := Ground.data }], guard := none } := by kernel_rfl
theorem loNew_op12 : (opsOf Try.f48 2)[12]? = some { dst := (some 19), op := (Op.box 67 (Operand.tmp 18)), type := 58, pos := "l8_lock.go:38", after := #[{ on := 11, ground := Ground.data }], guard := none } := by kernel_rfl
theorem loNew_op13 : (opsOf Try.f48 2)[13]? = some { dst := (some 2), op := (Op.assign (Operand.tmp 19)), type := 58, pos := "l8_lock.go:38", after := #[{ on := 12, ground := Ground.data }, { on := 5, ground := Ground.chain }, { on := 0, ground := Ground.phase }, { on := 1, ground := Ground.phase }, { on := 2, ground := Ground.phase }, { on := 3, ground := Ground.phase }, { on := 4, ground := Ground.phase }, { on := 5, ground := Ground.phase }, { on := 6, ground := Ground.phase }, { on := 7, ground := Ground.phase }, { on := 8, ground := Ground.phase }, { on := 9, ground := Ground.phase }, { on := 10, ground := Ground.phase }, { on := 11, ground := Ground.phase }, { on := 12, ground := Ground.phase }], guard := none } := by kernel_rfl
set_option maxHeartbeats 4000000 in
set_option maxRecDepth 100000 in
theorem loNew_region (A0_0 : Option Addr) (c0_0 : Nat) (l0_0 : List Int) (A0_1 : Option Addr) (c0_1 : Nat) (l0_1 : List Bool) (gb : Nat) (w : World) (Q : Exit → Act → World → Prop) (hQ : ∀ c a d v W, Q (.panic c) (a.put d v) W → Q (.panic c) a W) (hr0 : Kd.C (Kd.int .i64) w A0_0 l0_0.length l0_0) (hc0 : l0_0.length ≤ c0_0) (hr1 : Kd.C Kd.bool w A0_1 l0_1.length l0_1) (hc1 : l0_1.length ≤ c0_1) (hl0 : l0_0.length ≤ 1000) (hl1 : l0_1.length ≤ 1000) (BK : w.heap[gb]? = some (.cells #[.slice A0_0 l0_0.length c0_0, .slice A0_1 l0_1.length c0_1] 29 (0, 0)))
    (h_2_5_8_10 : ∀ (v9 v12 v15 v17 : Value) (W : World), Go.RowKit.Below w.heap.size w W → Kd.R Kd.bool 4 W w.heap.size (fun _ => True) v12 l0_1 → Kd.R (Kd.int .i64) 3 W w.heap.size (fun _ => True) v15 (List.replicate (l0_0.length + 1) (0 : Int)) → Kd.R (Kd.int .i64) 3 W w.heap.size (fun _ => True) v17 (List.replicate l0_0.length (0 : Int)) → (∀ k, v15.ownBlock = some k → v17.ownBlock ≠ some k) → wpAnyLast Try.prog .any (opsOf Try.f48 2) Q (fun w' : World => w'.cell? ⟨gb, 0, none⟩ = some (.slice A0_0 l0_0.length c0_0) ∧ w'.cell? ⟨gb, 1, none⟩ = some (.slice A0_1 l0_1.length c0_1)) [] 3 #[true, true, true, true, true, true, true, true, true, true, true, false, false, false] { tmps := #[.agg #[.slice A0_0 l0_0.length c0_0, .slice A0_1 l0_1.length c0_1], .pointer (some ⟨gb, 0, none⟩), .pointer none, .int .i64 (l0_0.length : Int), .pointer (some ⟨gb, 0, none⟩), .slice A0_0 l0_0.length c0_0, .int .i64 (l0_0.length : Int), .pointer (some ⟨gb, 0, none⟩), .slice A0_0 l0_0.length c0_0, v9, .pointer (some ⟨gb, 1, none⟩), .slice A0_1 l0_1.length c0_1, v12, .int .i64 (l0_0.length : Int), .int .i64 ((l0_0.length : Int) + 1), v15, .int .i64 (l0_0.length : Int), v17, undef, undef], defers := [] } W)
    (W : World) (HB : Go.RowKit.Below w.heap.size w W) : wpAnyLast Try.prog .any (opsOf Try.f48 2) Q (fun w' : World => w'.cell? ⟨gb, 0, none⟩ = some (.slice A0_0 l0_0.length c0_0) ∧ w'.cell? ⟨gb, 1, none⟩ = some (.slice A0_1 l0_1.length c0_1)) [] 7 #[true, true, false, true, true, false, true, true, false, true, false, false, false, false] { tmps := #[.agg #[.slice A0_0 l0_0.length c0_0, .slice A0_1 l0_1.length c0_1], .pointer (some ⟨gb, 0, none⟩), .pointer none, .int .i64 (l0_0.length : Int), .pointer (some ⟨gb, 0, none⟩), .slice A0_0 l0_0.length c0_0, .int .i64 (l0_0.length : Int), .pointer (some ⟨gb, 0, none⟩), .slice A0_0 l0_0.length c0_0, undef, .pointer (some ⟨gb, 1, none⟩), .slice A0_1 l0_1.length c0_1, undef, .int .i64 (l0_0.length : Int), .int .i64 ((l0_0.length : Int) + 1), undef, .int .i64 (l0_0.length : Int), undef, undef, undef], defers := [] } W := by
  have h_2_5_8 : ∀ (v9 v12 v15 : Value) (W : World), Go.RowKit.Below w.heap.size w W → Kd.R Kd.bool 4 W w.heap.size (fun _ => True) v12 l0_1 → Kd.R (Kd.int .i64) 3 W w.heap.size (fun _ => True) v15 (List.replicate (l0_0.length + 1) (0 : Int)) → wpAnyLast Try.prog .any (opsOf Try.f48 2) Q (fun w' : World => w'.cell? ⟨gb, 0, none⟩ = some (.slice A0_0 l0_0.length c0_0) ∧ w'.cell? ⟨gb, 1, none⟩ = some (.slice A0_1 l0_1.length c0_1)) [] 4 #[true, true, true, true, true, true, true, true, true, true, false, false, false, false] { tmps := #[.agg #[.slice A0_0 l0_0.length c0_0, .slice A0_1 l0_1.length c0_1], .pointer (some ⟨gb, 0, none⟩), .pointer none, .int .i64 (l0_0.length : Int), .pointer (some ⟨gb, 0, none⟩), .slice A0_0 l0_0.length c0_0, .int .i64 (l0_0.length : Int), .pointer (some ⟨gb, 0, none⟩), .slice A0_0 l0_0.length c0_0, v9, .pointer (some ⟨gb, 1, none⟩), .slice A0_1 l0_1.length c0_1, v12, .int .i64 (l0_0.length : Int), .int .i64 ((l0_0.length : Int) + 1), v15, .int .i64 (l0_0.length : Int), undef, undef, undef], defers := [] } W := by
    intro v9 v12 v15 W HB O5 O8
    refine wpAnyLast_ready (rs := [10]) (by kernel_rfl) (by simp) (AllReadyL.cons (i := 10) rfl (by decide) (fun K hK => ?a10) AllReadyL.nil)
    case a10 =>
      refine Kd.R_make_step (Kd.int .i64) (w0 := W) W.heap.size 3 rfl (N := 17) rfl 22 _ _ rfl (l0_0.length : Int) rfl rfl Try.underlying22 (.int .i64 0) 8 info3 rfl (by decide) (by omega) (0 : Int) (ok := fun _ => True) (okp := fun _ => True) rfl (fun _ hk => hk) trivial (by omega) (by omega) (Go.RowKit.Below.refl _ _) (Nat.le_refl _) ?_
      intro v17 W2 ho hb hg_ hn_
      rw [show ((l0_0.length : Int)).toNat = l0_0.length by omega] at ho
      have HB2 := below_then HB HB.size hb
      refine hK.out _ _ ⟨(blk_cell (blk_below BK HB2) 0).trans rfl, (blk_cell (blk_below BK HB2) 1).trans rfl⟩ (fun _ => ?_)
      refine norm_ (a' := { tmps := #[.agg #[.slice A0_0 l0_0.length c0_0, .slice A0_1 l0_1.length c0_1], .pointer (some ⟨gb, 0, none⟩), .pointer none, .int .i64 (l0_0.length : Int), .pointer (some ⟨gb, 0, none⟩), .slice A0_0 l0_0.length c0_0, .int .i64 (l0_0.length : Int), .pointer (some ⟨gb, 0, none⟩), .slice A0_0 l0_0.length c0_0, v9, .pointer (some ⟨gb, 1, none⟩), .slice A0_1 l0_1.length c0_1, v12, .int .i64 (l0_0.length : Int), .int .i64 ((l0_0.length : Int) + 1), v15, .int .i64 (l0_0.length : Int), v17, undef, undef], defers := [] }) (by show Act.put _ (some 17) _ = _; simp only [Act.put, List.setIfInBounds_toArray, List.set_cons_zero, List.set_cons_succ]) ?_
      (try simp only [List.setIfInBounds_toArray, List.set_cons_zero, List.set_cons_succ])
      exact h_2_5_8_10 v9 v12 v15 v17 W2 HB2 (Kd.R_below O5 hb) (Kd.R_below O8 hb) (Kd.R_lower ho HB.size) (apart_new O8 ho)
  have h_2_5_10 : ∀ (v9 v12 v17 : Value) (W : World), Go.RowKit.Below w.heap.size w W → Kd.R Kd.bool 4 W w.heap.size (fun _ => True) v12 l0_1 → Kd.R (Kd.int .i64) 3 W w.heap.size (fun _ => True) v17 (List.replicate l0_0.length (0 : Int)) → wpAnyLast Try.prog .any (opsOf Try.f48 2) Q (fun w' : World => w'.cell? ⟨gb, 0, none⟩ = some (.slice A0_0 l0_0.length c0_0) ∧ w'.cell? ⟨gb, 1, none⟩ = some (.slice A0_1 l0_1.length c0_1)) [] 4 #[true, true, true, true, true, true, true, true, false, true, true, false, false, false] { tmps := #[.agg #[.slice A0_0 l0_0.length c0_0, .slice A0_1 l0_1.length c0_1], .pointer (some ⟨gb, 0, none⟩), .pointer none, .int .i64 (l0_0.length : Int), .pointer (some ⟨gb, 0, none⟩), .slice A0_0 l0_0.length c0_0, .int .i64 (l0_0.length : Int), .pointer (some ⟨gb, 0, none⟩), .slice A0_0 l0_0.length c0_0, v9, .pointer (some ⟨gb, 1, none⟩), .slice A0_1 l0_1.length c0_1, v12, .int .i64 (l0_0.length : Int), .int .i64 ((l0_0.length : Int) + 1), undef, .int .i64 (l0_0.length : Int), v17, undef, undef], defers := [] } W := by
    intro v9 v12 v17 W HB O5 O10
    refine wpAnyLast_ready (rs := [8]) (by kernel_rfl) (by simp) (AllReadyL.cons (i := 8) rfl (by decide) (fun K hK => ?a8) AllReadyL.nil)
    case a8 =>
      refine Kd.R_make_step (Kd.int .i64) (w0 := W) W.heap.size 3 rfl (N := 15) rfl 22 _ _ rfl ((l0_0.length : Int) + 1) rfl rfl Try.underlying22 (.int .i64 0) 8 info3 rfl (by decide) (by omega) (0 : Int) (ok := fun _ => True) (okp := fun _ => True) rfl (fun _ hk => hk) trivial (by omega) (by omega) (Go.RowKit.Below.refl _ _) (Nat.le_refl _) ?_
      intro v15 W2 ho hb hg_ hn_
      rw [show (((l0_0.length : Int) + 1)).toNat = l0_0.length + 1 by omega] at ho
      have HB2 := below_then HB HB.size hb
      refine hK.out _ _ ⟨(blk_cell (blk_below BK HB2) 0).trans rfl, (blk_cell (blk_below BK HB2) 1).trans rfl⟩ (fun _ => ?_)
      refine norm_ (a' := { tmps := #[.agg #[.slice A0_0 l0_0.length c0_0, .slice A0_1 l0_1.length c0_1], .pointer (some ⟨gb, 0, none⟩), .pointer none, .int .i64 (l0_0.length : Int), .pointer (some ⟨gb, 0, none⟩), .slice A0_0 l0_0.length c0_0, .int .i64 (l0_0.length : Int), .pointer (some ⟨gb, 0, none⟩), .slice A0_0 l0_0.length c0_0, v9, .pointer (some ⟨gb, 1, none⟩), .slice A0_1 l0_1.length c0_1, v12, .int .i64 (l0_0.length : Int), .int .i64 ((l0_0.length : Int) + 1), v15, .int .i64 (l0_0.length : Int), v17, undef, undef], defers := [] }) (by show Act.put _ (some 15) _ = _; simp only [Act.put, List.setIfInBounds_toArray, List.set_cons_zero, List.set_cons_succ]) ?_
      (try simp only [List.setIfInBounds_toArray, List.set_cons_zero, List.set_cons_succ])
      exact h_2_5_8_10 v9 v12 v15 v17 W2 HB2 (Kd.R_below O5 hb) (Kd.R_lower ho HB.size) (Kd.R_below O10 hb) (fun k h1 h2 => apart_new O10 ho k h2 h1)
  have h_2_8_10 : ∀ (v9 v15 v17 : Value) (W : World), Go.RowKit.Below w.heap.size w W → Kd.R Kd.bool 4 W w.heap.size (fun _ => True) v9 ([] : List Bool) → Kd.R (Kd.int .i64) 3 W w.heap.size (fun _ => True) v15 (List.replicate (l0_0.length + 1) (0 : Int)) → Kd.R (Kd.int .i64) 3 W w.heap.size (fun _ => True) v17 (List.replicate l0_0.length (0 : Int)) → (∀ k, v15.ownBlock = some k → v17.ownBlock ≠ some k) → wpAnyLast Try.prog .any (opsOf Try.f48 2) Q (fun w' : World => w'.cell? ⟨gb, 0, none⟩ = some (.slice A0_0 l0_0.length c0_0) ∧ w'.cell? ⟨gb, 1, none⟩ = some (.slice A0_1 l0_1.length c0_1)) [] 4 #[true, true, true, true, true, false, true, true, true, true, true, false, false, false] { tmps := #[.agg #[.slice A0_0 l0_0.length c0_0, .slice A0_1 l0_1.length c0_1], .pointer (some ⟨gb, 0, none⟩), .pointer none, .int .i64 (l0_0.length : Int), .pointer (some ⟨gb, 0, none⟩), .slice A0_0 l0_0.length c0_0, .int .i64 (l0_0.length : Int), .pointer (some ⟨gb, 0, none⟩), .slice A0_0 l0_0.length c0_0, v9, .pointer (some ⟨gb, 1, none⟩), .slice A0_1 l0_1.length c0_1, undef, .int .i64 (l0_0.length : Int), .int .i64 ((l0_0.length : Int) + 1), v15, .int .i64 (l0_0.length : Int), v17, undef, undef], defers := [] } W := by
    intro v9 v15 v17 W HB O2 O8 O10 N8_10
    refine wpAnyLast_ready (rs := [5]) (by kernel_rfl) (by simp) (AllReadyL.cons (i := 5) rfl (by decide) (fun K hK => ?a5) AllReadyL.nil)
    case a5 =>
      refine Kd.R_append_rows_step Kd.bool (w0 := w) w.heap.size rfl (.tmp 9) (.tmp 11) 23 4 (.bool false) 1 rfl Try.underlying23 info4 rfl (by decide) (by omega) v9 [] l0_1 A0_1 l0_1.length c0_1 (fun _ => True) (fun _ => False) rfl rfl O2 (Kd.C_below hr1 HB) (fun _ _ h => h) (fun _ h => h.elim) (fun _ _ => trivial) HB HB.size (by simp; omega) ?_
      intro v12 W2 ho hb hg_ hn_
      rw [List.nil_append] at ho
      have HB2 := hb
      refine hK.out _ _ ⟨(blk_cell (blk_below BK HB2) 0).trans rfl, (blk_cell (blk_below BK HB2) 1).trans rfl⟩ (fun _ => ?_)
      refine norm_ (a' := { tmps := #[.agg #[.slice A0_0 l0_0.length c0_0, .slice A0_1 l0_1.length c0_1], .pointer (some ⟨gb, 0, none⟩), .pointer none, .int .i64 (l0_0.length : Int), .pointer (some ⟨gb, 0, none⟩), .slice A0_0 l0_0.length c0_0, .int .i64 (l0_0.length : Int), .pointer (some ⟨gb, 0, none⟩), .slice A0_0 l0_0.length c0_0, v9, .pointer (some ⟨gb, 1, none⟩), .slice A0_1 l0_1.length c0_1, v12, .int .i64 (l0_0.length : Int), .int .i64 ((l0_0.length : Int) + 1), v15, .int .i64 (l0_0.length : Int), v17, undef, undef], defers := [] }) (by show Act.put _ (some 12) _ = _; simp only [Act.put, List.setIfInBounds_toArray, List.set_cons_zero, List.set_cons_succ]) ?_
      (try simp only [List.setIfInBounds_toArray, List.set_cons_zero, List.set_cons_succ])
      exact h_2_5_8_10 v9 v12 v15 v17 W2 HB2 ho (Kd.R_over O8 O2 (fun q hq => by simp [Kd.int, Kd.bool, Kd.scalar] at hq; rw [hq]; decide) hg_) (Kd.R_over O10 O2 (fun q hq => by simp [Kd.int, Kd.bool, Kd.scalar] at hq; rw [hq]; decide) hg_) N8_10
  have h_2_5 : ∀ (v9 v12 : Value) (W : World), Go.RowKit.Below w.heap.size w W → Kd.R Kd.bool 4 W w.heap.size (fun _ => True) v12 l0_1 → wpAnyLast Try.prog .any (opsOf Try.f48 2) Q (fun w' : World => w'.cell? ⟨gb, 0, none⟩ = some (.slice A0_0 l0_0.length c0_0) ∧ w'.cell? ⟨gb, 1, none⟩ = some (.slice A0_1 l0_1.length c0_1)) [] 5 #[true, true, true, true, true, true, true, true, false, true, false, false, false, false] { tmps := #[.agg #[.slice A0_0 l0_0.length c0_0, .slice A0_1 l0_1.length c0_1], .pointer (some ⟨gb, 0, none⟩), .pointer none, .int .i64 (l0_0.length : Int), .pointer (some ⟨gb, 0, none⟩), .slice A0_0 l0_0.length c0_0, .int .i64 (l0_0.length : Int), .pointer (some ⟨gb, 0, none⟩), .slice A0_0 l0_0.length c0_0, v9, .pointer (some ⟨gb, 1, none⟩), .slice A0_1 l0_1.length c0_1, v12, .int .i64 (l0_0.length : Int), .int .i64 ((l0_0.length : Int) + 1), undef, .int .i64 (l0_0.length : Int), undef, undef, undef], defers := [] } W := by
    intro v9 v12 W HB O5
    refine wpAnyLast_ready (rs := [8, 10]) (by kernel_rfl) (by simp) (AllReadyL.cons (i := 8) rfl (by decide) (fun K hK => ?a8) (AllReadyL.cons (i := 10) rfl (by decide) (fun K hK => ?a10) AllReadyL.nil))
    case a8 =>
      refine Kd.R_make_step (Kd.int .i64) (w0 := W) W.heap.size 3 rfl (N := 15) rfl 22 _ _ rfl ((l0_0.length : Int) + 1) rfl rfl Try.underlying22 (.int .i64 0) 8 info3 rfl (by decide) (by omega) (0 : Int) (ok := fun _ => True) (okp := fun _ => True) rfl (fun _ hk => hk) trivial (by omega) (by omega) (Go.RowKit.Below.refl _ _) (Nat.le_refl _) ?_
      intro v15 W2 ho hb hg_ hn_
      rw [show (((l0_0.length : Int) + 1)).toNat = l0_0.length + 1 by omega] at ho
      have HB2 := below_then HB HB.size hb
      refine hK.out _ _ ⟨(blk_cell (blk_below BK HB2) 0).trans rfl, (blk_cell (blk_below BK HB2) 1).trans rfl⟩ (fun _ => ?_)
      refine norm_ (a' := { tmps := #[.agg #[.slice A0_0 l0_0.length c0_0, .slice A0_1 l0_1.length c0_1], .pointer (some ⟨gb, 0, none⟩), .pointer none, .int .i64 (l0_0.length : Int), .pointer (some ⟨gb, 0, none⟩), .slice A0_0 l0_0.length c0_0, .int .i64 (l0_0.length : Int), .pointer (some ⟨gb, 0, none⟩), .slice A0_0 l0_0.length c0_0, v9, .pointer (some ⟨gb, 1, none⟩), .slice A0_1 l0_1.length c0_1, v12, .int .i64 (l0_0.length : Int), .int .i64 ((l0_0.length : Int) + 1), v15, .int .i64 (l0_0.length : Int), undef, undef, undef], defers := [] }) (by show Act.put _ (some 15) _ = _; simp only [Act.put, List.setIfInBounds_toArray, List.set_cons_zero, List.set_cons_succ]) ?_
      (try simp only [List.setIfInBounds_toArray, List.set_cons_zero, List.set_cons_succ])
      exact h_2_5_8 v9 v12 v15 W2 HB2 (Kd.R_below O5 hb) (Kd.R_lower ho HB.size)
    case a10 =>
      refine Kd.R_make_step (Kd.int .i64) (w0 := W) W.heap.size 3 rfl (N := 17) rfl 22 _ _ rfl (l0_0.length : Int) rfl rfl Try.underlying22 (.int .i64 0) 8 info3 rfl (by decide) (by omega) (0 : Int) (ok := fun _ => True) (okp := fun _ => True) rfl (fun _ hk => hk) trivial (by omega) (by omega) (Go.RowKit.Below.refl _ _) (Nat.le_refl _) ?_
      intro v17 W2 ho hb hg_ hn_
      rw [show ((l0_0.length : Int)).toNat = l0_0.length by omega] at ho
      have HB2 := below_then HB HB.size hb
      refine hK.out _ _ ⟨(blk_cell (blk_below BK HB2) 0).trans rfl, (blk_cell (blk_below BK HB2) 1).trans rfl⟩ (fun _ => ?_)
      refine norm_ (a' := { tmps := #[.agg #[.slice A0_0 l0_0.length c0_0, .slice A0_1 l0_1.length c0_1], .pointer (some ⟨gb, 0, none⟩), .pointer none, .int .i64 (l0_0.length : Int), .pointer (some ⟨gb, 0, none⟩), .slice A0_0 l0_0.length c0_0, .int .i64 (l0_0.length : Int), .pointer (some ⟨gb, 0, none⟩), .slice A0_0 l0_0.length c0_0, v9, .pointer (some ⟨gb, 1, none⟩), .slice A0_1 l0_1.length c0_1, v12, .int .i64 (l0_0.length : Int), .int .i64 ((l0_0.length : Int) + 1), undef, .int .i64 (l0_0.length : Int), v17, undef, undef], defers := [] }) (by show Act.put _ (some 17) _ = _; simp only [Act.put, List.setIfInBounds_toArray, List.set_cons_zero, List.set_cons_succ]) ?_
      (try simp only [List.setIfInBounds_toArray, List.set_cons_zero, List.set_cons_succ])
      exact h_2_5_10 v9 v12 v17 W2 HB2 (Kd.R_below O5 hb) (Kd.R_lower ho HB.size)
  have h_2_8 : ∀ (v9 v15 : Value) (W : World), Go.RowKit.Below w.heap.size w W → Kd.R Kd.bool 4 W w.heap.size (fun _ => True) v9 ([] : List Bool) → Kd.R (Kd.int .i64) 3 W w.heap.size (fun _ => True) v15 (List.replicate (l0_0.length + 1) (0 : Int)) → wpAnyLast Try.prog .any (opsOf Try.f48 2) Q (fun w' : World => w'.cell? ⟨gb, 0, none⟩ = some (.slice A0_0 l0_0.length c0_0) ∧ w'.cell? ⟨gb, 1, none⟩ = some (.slice A0_1 l0_1.length c0_1)) [] 5 #[true, true, true, true, true, false, true, true, true, true, false, false, false, false] { tmps := #[.agg #[.slice A0_0 l0_0.length c0_0, .slice A0_1 l0_1.length c0_1], .pointer (some ⟨gb, 0, none⟩), .pointer none, .int .i64 (l0_0.length : Int), .pointer (some ⟨gb, 0, none⟩), .slice A0_0 l0_0.length c0_0, .int .i64 (l0_0.length : Int), .pointer (some ⟨gb, 0, none⟩), .slice A0_0 l0_0.length c0_0, v9, .pointer (some ⟨gb, 1, none⟩), .slice A0_1 l0_1.length c0_1, undef, .int .i64 (l0_0.length : Int), .int .i64 ((l0_0.length : Int) + 1), v15, .int .i64 (l0_0.length : Int), undef, undef, undef], defers := [] } W := by
    intro v9 v15 W HB O2 O8
    refine wpAnyLast_ready (rs := [5, 10]) (by kernel_rfl) (by simp) (AllReadyL.cons (i := 5) rfl (by decide) (fun K hK => ?a5) (AllReadyL.cons (i := 10) rfl (by decide) (fun K hK => ?a10) AllReadyL.nil))
    case a5 =>
      refine Kd.R_append_rows_step Kd.bool (w0 := w) w.heap.size rfl (.tmp 9) (.tmp 11) 23 4 (.bool false) 1 rfl Try.underlying23 info4 rfl (by decide) (by omega) v9 [] l0_1 A0_1 l0_1.length c0_1 (fun _ => True) (fun _ => False) rfl rfl O2 (Kd.C_below hr1 HB) (fun _ _ h => h) (fun _ h => h.elim) (fun _ _ => trivial) HB HB.size (by simp; omega) ?_
      intro v12 W2 ho hb hg_ hn_
      rw [List.nil_append] at ho
      have HB2 := hb
      refine hK.out _ _ ⟨(blk_cell (blk_below BK HB2) 0).trans rfl, (blk_cell (blk_below BK HB2) 1).trans rfl⟩ (fun _ => ?_)
      refine norm_ (a' := { tmps := #[.agg #[.slice A0_0 l0_0.length c0_0, .slice A0_1 l0_1.length c0_1], .pointer (some ⟨gb, 0, none⟩), .pointer none, .int .i64 (l0_0.length : Int), .pointer (some ⟨gb, 0, none⟩), .slice A0_0 l0_0.length c0_0, .int .i64 (l0_0.length : Int), .pointer (some ⟨gb, 0, none⟩), .slice A0_0 l0_0.length c0_0, v9, .pointer (some ⟨gb, 1, none⟩), .slice A0_1 l0_1.length c0_1, v12, .int .i64 (l0_0.length : Int), .int .i64 ((l0_0.length : Int) + 1), v15, .int .i64 (l0_0.length : Int), undef, undef, undef], defers := [] }) (by show Act.put _ (some 12) _ = _; simp only [Act.put, List.setIfInBounds_toArray, List.set_cons_zero, List.set_cons_succ]) ?_
      (try simp only [List.setIfInBounds_toArray, List.set_cons_zero, List.set_cons_succ])
      exact h_2_5_8 v9 v12 v15 W2 HB2 ho (Kd.R_over O8 O2 (fun q hq => by simp [Kd.int, Kd.bool, Kd.scalar] at hq; rw [hq]; decide) hg_)
    case a10 =>
      refine Kd.R_make_step (Kd.int .i64) (w0 := W) W.heap.size 3 rfl (N := 17) rfl 22 _ _ rfl (l0_0.length : Int) rfl rfl Try.underlying22 (.int .i64 0) 8 info3 rfl (by decide) (by omega) (0 : Int) (ok := fun _ => True) (okp := fun _ => True) rfl (fun _ hk => hk) trivial (by omega) (by omega) (Go.RowKit.Below.refl _ _) (Nat.le_refl _) ?_
      intro v17 W2 ho hb hg_ hn_
      rw [show ((l0_0.length : Int)).toNat = l0_0.length by omega] at ho
      have HB2 := below_then HB HB.size hb
      refine hK.out _ _ ⟨(blk_cell (blk_below BK HB2) 0).trans rfl, (blk_cell (blk_below BK HB2) 1).trans rfl⟩ (fun _ => ?_)
      refine norm_ (a' := { tmps := #[.agg #[.slice A0_0 l0_0.length c0_0, .slice A0_1 l0_1.length c0_1], .pointer (some ⟨gb, 0, none⟩), .pointer none, .int .i64 (l0_0.length : Int), .pointer (some ⟨gb, 0, none⟩), .slice A0_0 l0_0.length c0_0, .int .i64 (l0_0.length : Int), .pointer (some ⟨gb, 0, none⟩), .slice A0_0 l0_0.length c0_0, v9, .pointer (some ⟨gb, 1, none⟩), .slice A0_1 l0_1.length c0_1, undef, .int .i64 (l0_0.length : Int), .int .i64 ((l0_0.length : Int) + 1), v15, .int .i64 (l0_0.length : Int), v17, undef, undef], defers := [] }) (by show Act.put _ (some 17) _ = _; simp only [Act.put, List.setIfInBounds_toArray, List.set_cons_zero, List.set_cons_succ]) ?_
      (try simp only [List.setIfInBounds_toArray, List.set_cons_zero, List.set_cons_succ])
      exact h_2_8_10 v9 v15 v17 W2 HB2 (Kd.R_below O2 hb) (Kd.R_below O8 hb) (Kd.R_lower ho HB.size) (apart_new O8 ho)
  have h_2_10 : ∀ (v9 v17 : Value) (W : World), Go.RowKit.Below w.heap.size w W → Kd.R Kd.bool 4 W w.heap.size (fun _ => True) v9 ([] : List Bool) → Kd.R (Kd.int .i64) 3 W w.heap.size (fun _ => True) v17 (List.replicate l0_0.length (0 : Int)) → wpAnyLast Try.prog .any (opsOf Try.f48 2) Q (fun w' : World => w'.cell? ⟨gb, 0, none⟩ = some (.slice A0_0 l0_0.length c0_0) ∧ w'.cell? ⟨gb, 1, none⟩ = some (.slice A0_1 l0_1.length c0_1)) [] 5 #[true, true, true, true, true, false, true, true, false, true, true, false, false, false] { tmps := #[.agg #[.slice A0_0 l0_0.length c0_0, .slice A0_1 l0_1.length c0_1], .pointer (some ⟨gb, 0, none⟩), .pointer none, .int .i64 (l0_0.length : Int), .pointer (some ⟨gb, 0, none⟩), .slice A0_0 l0_0.length c0_0, .int .i64 (l0_0.length : Int), .pointer (some ⟨gb, 0, none⟩), .slice A0_0 l0_0.length c0_0, v9, .pointer (some ⟨gb, 1, none⟩), .slice A0_1 l0_1.length c0_1, undef, .int .i64 (l0_0.length : Int), .int .i64 ((l0_0.length : Int) + 1), undef, .int .i64 (l0_0.length : Int), v17, undef, undef], defers := [] } W := by
    intro v9 v17 W HB O2 O10
    refine wpAnyLast_ready (rs := [5, 8]) (by kernel_rfl) (by simp) (AllReadyL.cons (i := 5) rfl (by decide) (fun K hK => ?a5) (AllReadyL.cons (i := 8) rfl (by decide) (fun K hK => ?a8) AllReadyL.nil))
    case a5 =>
      refine Kd.R_append_rows_step Kd.bool (w0 := w) w.heap.size rfl (.tmp 9) (.tmp 11) 23 4 (.bool false) 1 rfl Try.underlying23 info4 rfl (by decide) (by omega) v9 [] l0_1 A0_1 l0_1.length c0_1 (fun _ => True) (fun _ => False) rfl rfl O2 (Kd.C_below hr1 HB) (fun _ _ h => h) (fun _ h => h.elim) (fun _ _ => trivial) HB HB.size (by simp; omega) ?_
      intro v12 W2 ho hb hg_ hn_
      rw [List.nil_append] at ho
      have HB2 := hb
      refine hK.out _ _ ⟨(blk_cell (blk_below BK HB2) 0).trans rfl, (blk_cell (blk_below BK HB2) 1).trans rfl⟩ (fun _ => ?_)
      refine norm_ (a' := { tmps := #[.agg #[.slice A0_0 l0_0.length c0_0, .slice A0_1 l0_1.length c0_1], .pointer (some ⟨gb, 0, none⟩), .pointer none, .int .i64 (l0_0.length : Int), .pointer (some ⟨gb, 0, none⟩), .slice A0_0 l0_0.length c0_0, .int .i64 (l0_0.length : Int), .pointer (some ⟨gb, 0, none⟩), .slice A0_0 l0_0.length c0_0, v9, .pointer (some ⟨gb, 1, none⟩), .slice A0_1 l0_1.length c0_1, v12, .int .i64 (l0_0.length : Int), .int .i64 ((l0_0.length : Int) + 1), undef, .int .i64 (l0_0.length : Int), v17, undef, undef], defers := [] }) (by show Act.put _ (some 12) _ = _; simp only [Act.put, List.setIfInBounds_toArray, List.set_cons_zero, List.set_cons_succ]) ?_
      (try simp only [List.setIfInBounds_toArray, List.set_cons_zero, List.set_cons_succ])
      exact h_2_5_10 v9 v12 v17 W2 HB2 ho (Kd.R_over O10 O2 (fun q hq => by simp [Kd.int, Kd.bool, Kd.scalar] at hq; rw [hq]; decide) hg_)
    case a8 =>
      refine Kd.R_make_step (Kd.int .i64) (w0 := W) W.heap.size 3 rfl (N := 15) rfl 22 _ _ rfl ((l0_0.length : Int) + 1) rfl rfl Try.underlying22 (.int .i64 0) 8 info3 rfl (by decide) (by omega) (0 : Int) (ok := fun _ => True) (okp := fun _ => True) rfl (fun _ hk => hk) trivial (by omega) (by omega) (Go.RowKit.Below.refl _ _) (Nat.le_refl _) ?_
      intro v15 W2 ho hb hg_ hn_
      rw [show (((l0_0.length : Int) + 1)).toNat = l0_0.length + 1 by omega] at ho
      have HB2 := below_then HB HB.size hb
      refine hK.out _ _ ⟨(blk_cell (blk_below BK HB2) 0).trans rfl, (blk_cell (blk_below BK HB2) 1).trans rfl⟩ (fun _ => ?_)
      refine norm_ (a' := { tmps := #[.agg #[.slice A0_0 l0_0.length c0_0, .slice A0_1 l0_1.length c0_1], .pointer (some ⟨gb, 0, none⟩), .pointer none, .int .i64 (l0_0.length : Int), .pointer (some ⟨gb, 0, none⟩), .slice A0_0 l0_0.length c0_0, .int .i64 (l0_0.length : Int), .pointer (some ⟨gb, 0, none⟩), .slice A0_0 l0_0.length c0_0, v9, .pointer (some ⟨gb, 1, none⟩), .slice A0_1 l0_1.length c0_1, undef, .int .i64 (l0_0.length : Int), .int .i64 ((l0_0.length : Int) + 1), v15, .int .i64 (l0_0.length : Int), v17, undef, undef], defers := [] }) (by show Act.put _ (some 15) _ = _; simp only [Act.put, List.setIfInBounds_toArray, List.set_cons_zero, List.set_cons_succ]) ?_
      (try simp only [List.setIfInBounds_toArray, List.set_cons_zero, List.set_cons_succ])
      exact h_2_8_10 v9 v15 v17 W2 HB2 (Kd.R_below O2 hb) (Kd.R_lower ho HB.size) (Kd.R_below O10 hb) (fun k h1 h2 => apart_new O10 ho k h2 h1)
  have h_8_10 : ∀ (v15 v17 : Value) (W : World), Go.RowKit.Below w.heap.size w W → Kd.R (Kd.int .i64) 3 W w.heap.size (fun _ => True) v15 (List.replicate (l0_0.length + 1) (0 : Int)) → Kd.R (Kd.int .i64) 3 W w.heap.size (fun _ => True) v17 (List.replicate l0_0.length (0 : Int)) → (∀ k, v15.ownBlock = some k → v17.ownBlock ≠ some k) → wpAnyLast Try.prog .any (opsOf Try.f48 2) Q (fun w' : World => w'.cell? ⟨gb, 0, none⟩ = some (.slice A0_0 l0_0.length c0_0) ∧ w'.cell? ⟨gb, 1, none⟩ = some (.slice A0_1 l0_1.length c0_1)) [] 5 #[true, true, false, true, true, false, true, true, true, true, true, false, false, false] { tmps := #[.agg #[.slice A0_0 l0_0.length c0_0, .slice A0_1 l0_1.length c0_1], .pointer (some ⟨gb, 0, none⟩), .pointer none, .int .i64 (l0_0.length : Int), .pointer (some ⟨gb, 0, none⟩), .slice A0_0 l0_0.length c0_0, .int .i64 (l0_0.length : Int), .pointer (some ⟨gb, 0, none⟩), .slice A0_0 l0_0.length c0_0, undef, .pointer (some ⟨gb, 1, none⟩), .slice A0_1 l0_1.length c0_1, undef, .int .i64 (l0_0.length : Int), .int .i64 ((l0_0.length : Int) + 1), v15, .int .i64 (l0_0.length : Int), v17, undef, undef], defers := [] } W := by
    intro v15 v17 W HB O8 O10 N8_10
    refine wpAnyLast_ready (rs := [2]) (by kernel_rfl) (by simp) (AllReadyL.cons (i := 2) loNew_op2 (by decide) (fun K hK => ?a2) AllReadyL.nil)
    case a2 =>
      refine Kd.R_lit_step Kd.bool (w0 := W) W.heap.size 4 rfl (N := 9) rfl (xs := []) (inner := []) (ok := fun _ => True) (okp := fun _ => True) ?hr (Reps.none _ _) (fun _ h => h) trivial (Go.RowKit.Below.refl _ _) (Nat.le_refl _) (by simp) ?_
      case hr => first | (go_simp; done) | (go_simp; rfl)
      intro v9 W2 ho hb hg_ hn_
      have HB2 := below_then HB HB.size hb
      refine hK.out _ _ ⟨(blk_cell (blk_below BK HB2) 0).trans rfl, (blk_cell (blk_below BK HB2) 1).trans rfl⟩ (fun _ => ?_)
      refine norm_ (a' := { tmps := #[.agg #[.slice A0_0 l0_0.length c0_0, .slice A0_1 l0_1.length c0_1], .pointer (some ⟨gb, 0, none⟩), .pointer none, .int .i64 (l0_0.length : Int), .pointer (some ⟨gb, 0, none⟩), .slice A0_0 l0_0.length c0_0, .int .i64 (l0_0.length : Int), .pointer (some ⟨gb, 0, none⟩), .slice A0_0 l0_0.length c0_0, v9, .pointer (some ⟨gb, 1, none⟩), .slice A0_1 l0_1.length c0_1, undef, .int .i64 (l0_0.length : Int), .int .i64 ((l0_0.length : Int) + 1), v15, .int .i64 (l0_0.length : Int), v17, undef, undef], defers := [] }) (by show Act.put _ (some 9) _ = _; simp only [Act.put, List.setIfInBounds_toArray, List.set_cons_zero, List.set_cons_succ]) ?_
      (try simp only [List.setIfInBounds_toArray, List.set_cons_zero, List.set_cons_succ])
      exact h_2_8_10 v9 v15 v17 W2 HB2 (Kd.R_lower ho HB.size) (Kd.R_below O8 hb) (Kd.R_below O10 hb) N8_10
  have h_2 : ∀ (v9 : Value) (W : World), Go.RowKit.Below w.heap.size w W → Kd.R Kd.bool 4 W w.heap.size (fun _ => True) v9 ([] : List Bool) → wpAnyLast Try.prog .any (opsOf Try.f48 2) Q (fun w' : World => w'.cell? ⟨gb, 0, none⟩ = some (.slice A0_0 l0_0.length c0_0) ∧ w'.cell? ⟨gb, 1, none⟩ = some (.slice A0_1 l0_1.length c0_1)) [] 6 #[true, true, true, true, true, false, true, true, false, true, false, false, false, false] { tmps := #[.agg #[.slice A0_0 l0_0.length c0_0, .slice A0_1 l0_1.length c0_1], .pointer (some ⟨gb, 0, none⟩), .pointer none, .int .i64 (l0_0.length : Int), .pointer (some ⟨gb, 0, none⟩), .slice A0_0 l0_0.length c0_0, .int .i64 (l0_0.length : Int), .pointer (some ⟨gb, 0, none⟩), .slice A0_0 l0_0.length c0_0, v9, .pointer (some ⟨gb, 1, none⟩), .slice A0_1 l0_1.length c0_1, undef, .int .i64 (l0_0.length : Int), .int .i64 ((l0_0.length : Int) + 1), undef, .int .i64 (l0_0.length : Int), undef, undef, undef], defers := [] } W := by
    intro v9 W HB O2
    refine wpAnyLast_ready (rs := [5, 8, 10]) (by kernel_rfl) (by simp) (AllReadyL.cons (i := 5) rfl (by decide) (fun K hK => ?a5) (AllReadyL.cons (i := 8) rfl (by decide) (fun K hK => ?a8) (AllReadyL.cons (i := 10) rfl (by decide) (fun K hK => ?a10) AllReadyL.nil)))
    case a5 =>
      refine Kd.R_append_rows_step Kd.bool (w0 := w) w.heap.size rfl (.tmp 9) (.tmp 11) 23 4 (.bool false) 1 rfl Try.underlying23 info4 rfl (by decide) (by omega) v9 [] l0_1 A0_1 l0_1.length c0_1 (fun _ => True) (fun _ => False) rfl rfl O2 (Kd.C_below hr1 HB) (fun _ _ h => h) (fun _ h => h.elim) (fun _ _ => trivial) HB HB.size (by simp; omega) ?_
      intro v12 W2 ho hb hg_ hn_
      rw [List.nil_append] at ho
      have HB2 := hb
      refine hK.out _ _ ⟨(blk_cell (blk_below BK HB2) 0).trans rfl, (blk_cell (blk_below BK HB2) 1).trans rfl⟩ (fun _ => ?_)
      refine norm_ (a' := { tmps := #[.agg #[.slice A0_0 l0_0.length c0_0, .slice A0_1 l0_1.length c0_1], .pointer (some ⟨gb, 0, none⟩), .pointer none, .int .i64 (l0_0.length : Int), .pointer (some ⟨gb, 0, none⟩), .slice A0_0 l0_0.length c0_0, .int .i64 (l0_0.length : Int), .pointer (some ⟨gb, 0, none⟩), .slice A0_0 l0_0.length c0_0, v9, .pointer (some ⟨gb, 1, none⟩), .slice A0_1 l0_1.length c0_1, v12, .int .i64 (l0_0.length : Int), .int .i64 ((l0_0.length : Int) + 1), undef, .int .i64 (l0_0.length : Int), undef, undef, undef], defers := [] }) (by show Act.put _ (some 12) _ = _; simp only [Act.put, List.setIfInBounds_toArray, List.set_cons_zero, List.set_cons_succ]) ?_
      (try simp only [List.setIfInBounds_toArray, List.set_cons_zero, List.set_cons_succ])
      exact h_2_5 v9 v12 W2 HB2 ho
    case a8 =>
      refine Kd.R_make_step (Kd.int .i64) (w0 := W) W.heap.size 3 rfl (N := 15) rfl 22 _ _ rfl ((l0_0.length : Int) + 1) rfl rfl Try.underlying22 (.int .i64 0) 8 info3 rfl (by decide) (by omega) (0 : Int) (ok := fun _ => True) (okp := fun _ => True) rfl (fun _ hk => hk) trivial (by omega) (by omega) (Go.RowKit.Below.refl _ _) (Nat.le_refl _) ?_
      intro v15 W2 ho hb hg_ hn_
      rw [show (((l0_0.length : Int) + 1)).toNat = l0_0.length + 1 by omega] at ho
      have HB2 := below_then HB HB.size hb
      refine hK.out _ _ ⟨(blk_cell (blk_below BK HB2) 0).trans rfl, (blk_cell (blk_below BK HB2) 1).trans rfl⟩ (fun _ => ?_)
      refine norm_ (a' := { tmps := #[.agg #[.slice A0_0 l0_0.length c0_0, .slice A0_1 l0_1.length c0_1], .pointer (some ⟨gb, 0, none⟩), .pointer none, .int .i64 (l0_0.length : Int), .pointer (some ⟨gb, 0, none⟩), .slice A0_0 l0_0.length c0_0, .int .i64 (l0_0.length : Int), .pointer (some ⟨gb, 0, none⟩), .slice A0_0 l0_0.length c0_0, v9, .pointer (some ⟨gb, 1, none⟩), .slice A0_1 l0_1.length c0_1, undef, .int .i64 (l0_0.length : Int), .int .i64 ((l0_0.length : Int) + 1), v15, .int .i64 (l0_0.length : Int), undef, undef, undef], defers := [] }) (by show Act.put _ (some 15) _ = _; simp only [Act.put, List.setIfInBounds_toArray, List.set_cons_zero, List.set_cons_succ]) ?_
      (try simp only [List.setIfInBounds_toArray, List.set_cons_zero, List.set_cons_succ])
      exact h_2_8 v9 v15 W2 HB2 (Kd.R_below O2 hb) (Kd.R_lower ho HB.size)
    case a10 =>
      refine Kd.R_make_step (Kd.int .i64) (w0 := W) W.heap.size 3 rfl (N := 17) rfl 22 _ _ rfl (l0_0.length : Int) rfl rfl Try.underlying22 (.int .i64 0) 8 info3 rfl (by decide) (by omega) (0 : Int) (ok := fun _ => True) (okp := fun _ => True) rfl (fun _ hk => hk) trivial (by omega) (by omega) (Go.RowKit.Below.refl _ _) (Nat.le_refl _) ?_
      intro v17 W2 ho hb hg_ hn_
      rw [show ((l0_0.length : Int)).toNat = l0_0.length by omega] at ho
      have HB2 := below_then HB HB.size hb
      refine hK.out _ _ ⟨(blk_cell (blk_below BK HB2) 0).trans rfl, (blk_cell (blk_below BK HB2) 1).trans rfl⟩ (fun _ => ?_)
      refine norm_ (a' := { tmps := #[.agg #[.slice A0_0 l0_0.length c0_0, .slice A0_1 l0_1.length c0_1], .pointer (some ⟨gb, 0, none⟩), .pointer none, .int .i64 (l0_0.length : Int), .pointer (some ⟨gb, 0, none⟩), .slice A0_0 l0_0.length c0_0, .int .i64 (l0_0.length : Int), .pointer (some ⟨gb, 0, none⟩), .slice A0_0 l0_0.length c0_0, v9, .pointer (some ⟨gb, 1, none⟩), .slice A0_1 l0_1.length c0_1, undef, .int .i64 (l0_0.length : Int), .int .i64 ((l0_0.length : Int) + 1), undef, .int .i64 (l0_0.length : Int), v17, undef, undef], defers := [] }) (by show Act.put _ (some 17) _ = _; simp only [Act.put, List.setIfInBounds_toArray, List.set_cons_zero, List.set_cons_succ]) ?_
      (try simp only [List.setIfInBounds_toArray, List.set_cons_zero, List.set_cons_succ])
      exact h_2_10 v9 v17 W2 HB2 (Kd.R_below O2 hb) (Kd.R_lower ho HB.size)
  have h_8 : ∀ (v15 : Value) (W : World), Go.RowKit.Below w.heap.size w W → Kd.R (Kd.int .i64) 3 W w.heap.size (fun _ => True) v15 (List.replicate (l0_0.length + 1) (0 : Int)) → wpAnyLast Try.prog .any (opsOf Try.f48 2) Q (fun w' : World => w'.cell? ⟨gb, 0, none⟩ = some (.slice A0_0 l0_0.length c0_0) ∧ w'.cell? ⟨gb, 1, none⟩ = some (.slice A0_1 l0_1.length c0_1)) [] 6 #[true, true, false, true, true, false, true, true, true, true, false, false, false, false] { tmps := #[.agg #[.slice A0_0 l0_0.length c0_0, .slice A0_1 l0_1.length c0_1], .pointer (some ⟨gb, 0, none⟩), .pointer none, .int .i64 (l0_0.length : Int), .pointer (some ⟨gb, 0, none⟩), .slice A0_0 l0_0.length c0_0, .int .i64 (l0_0.length : Int), .pointer (some ⟨gb, 0, none⟩), .slice A0_0 l0_0.length c0_0, undef, .pointer (some ⟨gb, 1, none⟩), .slice A0_1 l0_1.length c0_1, undef, .int .i64 (l0_0.length : Int), .int .i64 ((l0_0.length : Int) + 1), v15, .int .i64 (l0_0.length : Int), undef, undef, undef], defers := [] } W := by
    intro v15 W HB O8
    refine wpAnyLast_ready (rs := [2, 10]) (by kernel_rfl) (by simp) (AllReadyL.cons (i := 2) loNew_op2 (by decide) (fun K hK => ?a2) (AllReadyL.cons (i := 10) rfl (by decide) (fun K hK => ?a10) AllReadyL.nil))
    case a2 =>
      refine Kd.R_lit_step Kd.bool (w0 := W) W.heap.size 4 rfl (N := 9) rfl (xs := []) (inner := []) (ok := fun _ => True) (okp := fun _ => True) ?hr (Reps.none _ _) (fun _ h => h) trivial (Go.RowKit.Below.refl _ _) (Nat.le_refl _) (by simp) ?_
      case hr => first | (go_simp; done) | (go_simp; rfl)
      intro v9 W2 ho hb hg_ hn_
      have HB2 := below_then HB HB.size hb
      refine hK.out _ _ ⟨(blk_cell (blk_below BK HB2) 0).trans rfl, (blk_cell (blk_below BK HB2) 1).trans rfl⟩ (fun _ => ?_)
      refine norm_ (a' := { tmps := #[.agg #[.slice A0_0 l0_0.length c0_0, .slice A0_1 l0_1.length c0_1], .pointer (some ⟨gb, 0, none⟩), .pointer none, .int .i64 (l0_0.length : Int), .pointer (some ⟨gb, 0, none⟩), .slice A0_0 l0_0.length c0_0, .int .i64 (l0_0.length : Int), .pointer (some ⟨gb, 0, none⟩), .slice A0_0 l0_0.length c0_0, v9, .pointer (some ⟨gb, 1, none⟩), .slice A0_1 l0_1.length c0_1, undef, .int .i64 (l0_0.length : Int), .int .i64 ((l0_0.length : Int) + 1), v15, .int .i64 (l0_0.length : Int), undef, undef, undef], defers := [] }) (by show Act.put _ (some 9) _ = _; simp only [Act.put, List.setIfInBounds_toArray, List.set_cons_zero, List.set_cons_succ]) ?_
      (try simp only [List.setIfInBounds_toArray, List.set_cons_zero, List.set_cons_succ])
      exact h_2_8 v9 v15 W2 HB2 (Kd.R_lower ho HB.size) (Kd.R_below O8 hb)
    case a10 =>
      refine Kd.R_make_step (Kd.int .i64) (w0 := W) W.heap.size 3 rfl (N := 17) rfl 22 _ _ rfl (l0_0.length : Int) rfl rfl Try.underlying22 (.int .i64 0) 8 info3 rfl (by decide) (by omega) (0 : Int) (ok := fun _ => True) (okp := fun _ => True) rfl (fun _ hk => hk) trivial (by omega) (by omega) (Go.RowKit.Below.refl _ _) (Nat.le_refl _) ?_
      intro v17 W2 ho hb hg_ hn_
      rw [show ((l0_0.length : Int)).toNat = l0_0.length by omega] at ho
      have HB2 := below_then HB HB.size hb
      refine hK.out _ _ ⟨(blk_cell (blk_below BK HB2) 0).trans rfl, (blk_cell (blk_below BK HB2) 1).trans rfl⟩ (fun _ => ?_)
      refine norm_ (a' := { tmps := #[.agg #[.slice A0_0 l0_0.length c0_0, .slice A0_1 l0_1.length c0_1], .pointer (some ⟨gb, 0, none⟩), .pointer none, .int .i64 (l0_0.length : Int), .pointer (some ⟨gb, 0, none⟩), .slice A0_0 l0_0.length c0_0, .int .i64 (l0_0.length : Int), .pointer (some ⟨gb, 0, none⟩), .slice A0_0 l0_0.length c0_0, undef, .pointer (some ⟨gb, 1, none⟩), .slice A0_1 l0_1.length c0_1, undef, .int .i64 (l0_0.length : Int), .int .i64 ((l0_0.length : Int) + 1), v15, .int .i64 (l0_0.length : Int), v17, undef, undef], defers := [] }) (by show Act.put _ (some 17) _ = _; simp only [Act.put, List.setIfInBounds_toArray, List.set_cons_zero, List.set_cons_succ]) ?_
      (try simp only [List.setIfInBounds_toArray, List.set_cons_zero, List.set_cons_succ])
      exact h_8_10 v15 v17 W2 HB2 (Kd.R_below O8 hb) (Kd.R_lower ho HB.size) (apart_new O8 ho)
  have h_10 : ∀ (v17 : Value) (W : World), Go.RowKit.Below w.heap.size w W → Kd.R (Kd.int .i64) 3 W w.heap.size (fun _ => True) v17 (List.replicate l0_0.length (0 : Int)) → wpAnyLast Try.prog .any (opsOf Try.f48 2) Q (fun w' : World => w'.cell? ⟨gb, 0, none⟩ = some (.slice A0_0 l0_0.length c0_0) ∧ w'.cell? ⟨gb, 1, none⟩ = some (.slice A0_1 l0_1.length c0_1)) [] 6 #[true, true, false, true, true, false, true, true, false, true, true, false, false, false] { tmps := #[.agg #[.slice A0_0 l0_0.length c0_0, .slice A0_1 l0_1.length c0_1], .pointer (some ⟨gb, 0, none⟩), .pointer none, .int .i64 (l0_0.length : Int), .pointer (some ⟨gb, 0, none⟩), .slice A0_0 l0_0.length c0_0, .int .i64 (l0_0.length : Int), .pointer (some ⟨gb, 0, none⟩), .slice A0_0 l0_0.length c0_0, undef, .pointer (some ⟨gb, 1, none⟩), .slice A0_1 l0_1.length c0_1, undef, .int .i64 (l0_0.length : Int), .int .i64 ((l0_0.length : Int) + 1), undef, .int .i64 (l0_0.length : Int), v17, undef, undef], defers := [] } W := by
    intro v17 W HB O10
    refine wpAnyLast_ready (rs := [2, 8]) (by kernel_rfl) (by simp) (AllReadyL.cons (i := 2) loNew_op2 (by decide) (fun K hK => ?a2) (AllReadyL.cons (i := 8) rfl (by decide) (fun K hK => ?a8) AllReadyL.nil))
    case a2 =>
      refine Kd.R_lit_step Kd.bool (w0 := W) W.heap.size 4 rfl (N := 9) rfl (xs := []) (inner := []) (ok := fun _ => True) (okp := fun _ => True) ?hr (Reps.none _ _) (fun _ h => h) trivial (Go.RowKit.Below.refl _ _) (Nat.le_refl _) (by simp) ?_
      case hr => first | (go_simp; done) | (go_simp; rfl)
      intro v9 W2 ho hb hg_ hn_
      have HB2 := below_then HB HB.size hb
      refine hK.out _ _ ⟨(blk_cell (blk_below BK HB2) 0).trans rfl, (blk_cell (blk_below BK HB2) 1).trans rfl⟩ (fun _ => ?_)
      refine norm_ (a' := { tmps := #[.agg #[.slice A0_0 l0_0.length c0_0, .slice A0_1 l0_1.length c0_1], .pointer (some ⟨gb, 0, none⟩), .pointer none, .int .i64 (l0_0.length : Int), .pointer (some ⟨gb, 0, none⟩), .slice A0_0 l0_0.length c0_0, .int .i64 (l0_0.length : Int), .pointer (some ⟨gb, 0, none⟩), .slice A0_0 l0_0.length c0_0, v9, .pointer (some ⟨gb, 1, none⟩), .slice A0_1 l0_1.length c0_1, undef, .int .i64 (l0_0.length : Int), .int .i64 ((l0_0.length : Int) + 1), undef, .int .i64 (l0_0.length : Int), v17, undef, undef], defers := [] }) (by show Act.put _ (some 9) _ = _; simp only [Act.put, List.setIfInBounds_toArray, List.set_cons_zero, List.set_cons_succ]) ?_
      (try simp only [List.setIfInBounds_toArray, List.set_cons_zero, List.set_cons_succ])
      exact h_2_10 v9 v17 W2 HB2 (Kd.R_lower ho HB.size) (Kd.R_below O10 hb)
    case a8 =>
      refine Kd.R_make_step (Kd.int .i64) (w0 := W) W.heap.size 3 rfl (N := 15) rfl 22 _ _ rfl ((l0_0.length : Int) + 1) rfl rfl Try.underlying22 (.int .i64 0) 8 info3 rfl (by decide) (by omega) (0 : Int) (ok := fun _ => True) (okp := fun _ => True) rfl (fun _ hk => hk) trivial (by omega) (by omega) (Go.RowKit.Below.refl _ _) (Nat.le_refl _) ?_
      intro v15 W2 ho hb hg_ hn_
      rw [show (((l0_0.length : Int) + 1)).toNat = l0_0.length + 1 by omega] at ho
      have HB2 := below_then HB HB.size hb
      refine hK.out _ _ ⟨(blk_cell (blk_below BK HB2) 0).trans rfl, (blk_cell (blk_below BK HB2) 1).trans rfl⟩ (fun _ => ?_)
      refine norm_ (a' := { tmps := #[.agg #[.slice A0_0 l0_0.length c0_0, .slice A0_1 l0_1.length c0_1], .pointer (some ⟨gb, 0, none⟩), .pointer none, .int .i64 (l0_0.length : Int), .pointer (some ⟨gb, 0, none⟩), .slice A0_0 l0_0.length c0_0, .int .i64 (l0_0.length : Int), .pointer (some ⟨gb, 0, none⟩), .slice A0_0 l0_0.length c0_0, undef, .pointer (some ⟨gb, 1, none⟩), .slice A0_1 l0_1.length c0_1, undef, .int .i64 (l0_0.length : Int), .int .i64 ((l0_0.length : Int) + 1), v15, .int .i64 (l0_0.length : Int), v17, undef, undef], defers := [] }) (by show Act.put _ (some 15) _ = _; simp only [Act.put, List.setIfInBounds_toArray, List.set_cons_zero, List.set_cons_succ]) ?_
      (try simp only [List.setIfInBounds_toArray, List.set_cons_zero, List.set_cons_succ])
      exact h_8_10 v15 v17 W2 HB2 (Kd.R_lower ho HB.size) (Kd.R_below O10 hb) (fun k h1 h2 => apart_new O10 ho k h2 h1)
  refine wpAnyLast_ready (rs := [2, 8, 10]) (by kernel_rfl) (by simp) (AllReadyL.cons (i := 2) loNew_op2 (by decide) (fun K hK => ?a2) (AllReadyL.cons (i := 8) rfl (by decide) (fun K hK => ?a8) (AllReadyL.cons (i := 10) rfl (by decide) (fun K hK => ?a10) AllReadyL.nil)))
  case a2 =>
    refine Kd.R_lit_step Kd.bool (w0 := W) W.heap.size 4 rfl (N := 9) rfl (xs := []) (inner := []) (ok := fun _ => True) (okp := fun _ => True) ?hr (Reps.none _ _) (fun _ h => h) trivial (Go.RowKit.Below.refl _ _) (Nat.le_refl _) (by simp) ?_
    case hr => first | (go_simp; done) | (go_simp; rfl)
    intro v9 W2 ho hb hg_ hn_
    have HB2 := below_then HB HB.size hb
    refine hK.out _ _ ⟨(blk_cell (blk_below BK HB2) 0).trans rfl, (blk_cell (blk_below BK HB2) 1).trans rfl⟩ (fun _ => ?_)
    refine norm_ (a' := { tmps := #[.agg #[.slice A0_0 l0_0.length c0_0, .slice A0_1 l0_1.length c0_1], .pointer (some ⟨gb, 0, none⟩), .pointer none, .int .i64 (l0_0.length : Int), .pointer (some ⟨gb, 0, none⟩), .slice A0_0 l0_0.length c0_0, .int .i64 (l0_0.length : Int), .pointer (some ⟨gb, 0, none⟩), .slice A0_0 l0_0.length c0_0, v9, .pointer (some ⟨gb, 1, none⟩), .slice A0_1 l0_1.length c0_1, undef, .int .i64 (l0_0.length : Int), .int .i64 ((l0_0.length : Int) + 1), undef, .int .i64 (l0_0.length : Int), undef, undef, undef], defers := [] }) (by show Act.put _ (some 9) _ = _; simp only [Act.put, List.setIfInBounds_toArray, List.set_cons_zero, List.set_cons_succ]) ?_
    (try simp only [List.setIfInBounds_toArray, List.set_cons_zero, List.set_cons_succ])
    exact h_2 v9 W2 HB2 (Kd.R_lower ho HB.size)
  case a8 =>
    refine Kd.R_make_step (Kd.int .i64) (w0 := W) W.heap.size 3 rfl (N := 15) rfl 22 _ _ rfl ((l0_0.length : Int) + 1) rfl rfl Try.underlying22 (.int .i64 0) 8 info3 rfl (by decide) (by omega) (0 : Int) (ok := fun _ => True) (okp := fun _ => True) rfl (fun _ hk => hk) trivial (by omega) (by omega) (Go.RowKit.Below.refl _ _) (Nat.le_refl _) ?_
    intro v15 W2 ho hb hg_ hn_
    rw [show (((l0_0.length : Int) + 1)).toNat = l0_0.length + 1 by omega] at ho
    have HB2 := below_then HB HB.size hb
    refine hK.out _ _ ⟨(blk_cell (blk_below BK HB2) 0).trans rfl, (blk_cell (blk_below BK HB2) 1).trans rfl⟩ (fun _ => ?_)
    refine norm_ (a' := { tmps := #[.agg #[.slice A0_0 l0_0.length c0_0, .slice A0_1 l0_1.length c0_1], .pointer (some ⟨gb, 0, none⟩), .pointer none, .int .i64 (l0_0.length : Int), .pointer (some ⟨gb, 0, none⟩), .slice A0_0 l0_0.length c0_0, .int .i64 (l0_0.length : Int), .pointer (some ⟨gb, 0, none⟩), .slice A0_0 l0_0.length c0_0, undef, .pointer (some ⟨gb, 1, none⟩), .slice A0_1 l0_1.length c0_1, undef, .int .i64 (l0_0.length : Int), .int .i64 ((l0_0.length : Int) + 1), v15, .int .i64 (l0_0.length : Int), undef, undef, undef], defers := [] }) (by show Act.put _ (some 15) _ = _; simp only [Act.put, List.setIfInBounds_toArray, List.set_cons_zero, List.set_cons_succ]) ?_
    (try simp only [List.setIfInBounds_toArray, List.set_cons_zero, List.set_cons_succ])
    exact h_8 v15 W2 HB2 (Kd.R_lower ho HB.size)
  case a10 =>
    refine Kd.R_make_step (Kd.int .i64) (w0 := W) W.heap.size 3 rfl (N := 17) rfl 22 _ _ rfl (l0_0.length : Int) rfl rfl Try.underlying22 (.int .i64 0) 8 info3 rfl (by decide) (by omega) (0 : Int) (ok := fun _ => True) (okp := fun _ => True) rfl (fun _ hk => hk) trivial (by omega) (by omega) (Go.RowKit.Below.refl _ _) (Nat.le_refl _) ?_
    intro v17 W2 ho hb hg_ hn_
    rw [show ((l0_0.length : Int)).toNat = l0_0.length by omega] at ho
    have HB2 := below_then HB HB.size hb
    refine hK.out _ _ ⟨(blk_cell (blk_below BK HB2) 0).trans rfl, (blk_cell (blk_below BK HB2) 1).trans rfl⟩ (fun _ => ?_)
    refine norm_ (a' := { tmps := #[.agg #[.slice A0_0 l0_0.length c0_0, .slice A0_1 l0_1.length c0_1], .pointer (some ⟨gb, 0, none⟩), .pointer none, .int .i64 (l0_0.length : Int), .pointer (some ⟨gb, 0, none⟩), .slice A0_0 l0_0.length c0_0, .int .i64 (l0_0.length : Int), .pointer (some ⟨gb, 0, none⟩), .slice A0_0 l0_0.length c0_0, undef, .pointer (some ⟨gb, 1, none⟩), .slice A0_1 l0_1.length c0_1, undef, .int .i64 (l0_0.length : Int), .int .i64 ((l0_0.length : Int) + 1), undef, .int .i64 (l0_0.length : Int), v17, undef, undef], defers := [] }) (by show Act.put _ (some 17) _ = _; simp only [Act.put, List.setIfInBounds_toArray, List.set_cons_zero, List.set_cons_succ]) ?_
    (try simp only [List.setIfInBounds_toArray, List.set_cons_zero, List.set_cons_succ])
    exact h_10 v17 W2 HB2 (Kd.R_lower ho HB.size)
set_option maxHeartbeats 4000000 in
set_option maxRecDepth 100000 in
theorem loNew.raw (A0_0 : Option Addr) (c0_0 : Nat) (l0_0 : List Int) (A0_1 : Option Addr) (c0_1 : Nat) (l0_1 : List Bool) (w : World) (hr0 : Kd.C (Kd.int .i64) w A0_0 l0_0.length l0_0) (hc0 : l0_0.length ≤ c0_0) (hr1 : Kd.C Kd.bool w A0_1 l0_1.length l0_1) (hc1 : l0_1.length ≤ c0_1) (hl0 : l0_0.length ≤ 1000) (hl1 : l0_1.length ≤ 1000) :
    Calls Try.prog 48 #[.agg #[.slice A0_0 l0_0.length c0_0, .slice A0_1 l0_1.length c0_1]] w fun e w' => ∃ (g : Nat) (v12 v15 v17 : Value), e = .returned (.pointer (some ⟨g, 0, none⟩)) ∧ w.heap.size ≤ g ∧ w'.heap[g]? = some (.cells #[.slice A0_0 l0_0.length c0_0, v12, v15, v17] 67 (0, 0)) ∧ Go.RowKit.Below w.heap.size w w' ∧ Kd.R Kd.bool 4 w' w.heap.size (fun _ => True) v12 l0_1 ∧ Kd.R (Kd.int .i64) 3 w' w.heap.size (fun _ => True) v15 (List.replicate (l0_0.length + 1) (0 : Int)) ∧ Kd.R (Kd.int .i64) 3 w' w.heap.size (fun _ => True) v17 (List.replicate l0_0.length (0 : Int)) ∧ (∀ k, v15.ownBlock = some k → v17.ownBlock ≠ some k) := by
  have HB0 := Aside0.mk (below_drew1 (below_alloc (Go.RowKit.Below.refl w.heap.size w) (.cells #[.slice A0_0 l0_0.length c0_0, .slice A0_1 l0_1.length c0_1] 29)))
  have BK := Aside0.mk (blk_drew (hw_new0 w (.cells #[.slice A0_0 l0_0.length c0_0, .slice A0_1 l0_1.length c0_1] 29)))
  have e1 : wrap64 ((l0_0.length : Int) + 1) = (l0_0.length : Int) + 1 := by unfold wrap64; omega
  have hp := Aside0.mk (fun Q hQ hfin => loNew_region A0_0 c0_0 l0_0 A0_1 c0_1 l0_1 w.heap.size ((w.alloc (.cells #[.slice A0_0 l0_0.length c0_0, .slice A0_1 l0_1.length c0_1] 29)).drew) Q hQ (Kd.C_below hr0 HB0.out) hc0 (Kd.C_below hr1 HB0.out) hc1 hl0 hl1 BK.out hfin _ (Go.RowKit.Below.refl _ _))
  have hc1 := (blk_cell (hw_new0 w (.cells #[.slice A0_0 l0_0.length c0_0, .slice A0_1 l0_1.length c0_1] 29)) 0).trans rfl
  clear hr0 hr1 hc0 hl0 hl1
  go_enter Try.func48, Try.ntmps48
  go_wp2
  refine start_ (n := 14) (S := fun w' => w'.cell? ⟨w.heap.size, 0, none⟩ = some (.slice A0_0 l0_0.length c0_0) ∧ w'.cell? ⟨w.heap.size, 1, none⟩ = some (.slice A0_1 l0_1.length c0_1)) (ds := []) #[false, false, false, false, false, false, false, false, false, false, false, false, false, false] (by kernel_rfl) rfl rfl ⟨(blk_cell BK.out 0).trans rfl, (blk_cell BK.out 1).trans rfl⟩ (fun hHeld => ?_)
  refine pure_ (i := 0) (N := some 7) (v := ?_) (a' := ?_) #[true, false, false, false, false, false, false, false, false, false, false, false, false, false] rfl rfl (by kernel_rfl) (fun _ _ _ h => h) (Or.inl ⟨by rfl, ?_⟩) ?_ ?_
  rotate_left
  · intro w'
    go_simp
    with_reducible rfl
  rotate_left
  · simp only [Act.put, List.setIfInBounds_toArray, List.set_cons_zero, List.set_cons_succ, i64_w, i32_w]
    rfl
  refine take_ (i := 1) (N := some 8) (v := ?_) (a' := ?_) #[true, true, false, false, false, false, false, false, false, false, false, false, false, false] rfl rfl (by kernel_rfl) (fun _ _ _ h => h) (Or.inl ⟨by rfl, ?_⟩) hHeld ?_ ?_
  rotate_left
  · rintro w' ⟨s0, s1⟩
    go_simp
    with_reducible rfl
  rotate_left
  · simp only [Act.put, List.setIfInBounds_toArray, List.set_cons_zero, List.set_cons_succ, i64_w, i32_w]
    rfl
  refine pure_ (i := 3) (N := some 10) (v := ?_) (a' := ?_) #[true, true, false, true, false, false, false, false, false, false, false, false, false, false] rfl rfl (by kernel_rfl) (fun _ _ _ h => h) (Or.inl ⟨by rfl, ?_⟩) ?_ ?_
  rotate_left
  · intro w'
    go_simp
    with_reducible rfl
  rotate_left
  · simp only [Act.put, List.setIfInBounds_toArray, List.set_cons_zero, List.set_cons_succ, i64_w, i32_w]
    rfl
  refine take_ (i := 4) (N := some 11) (v := ?_) (a' := ?_) #[true, true, false, true, true, false, false, false, false, false, false, false, false, false] rfl rfl (by kernel_rfl) (fun _ _ _ h => h) (Or.inl ⟨by rfl, ?_⟩) hHeld ?_ ?_
  rotate_left
  · rintro w' ⟨s0, s1⟩
    go_simp
    with_reducible rfl
  rotate_left
  · simp only [Act.put, List.setIfInBounds_toArray, List.set_cons_zero, List.set_cons_succ, i64_w, i32_w]
    rfl
  refine pure_ (i := 6) (N := some 13) (v := ?_) (a' := ?_) #[true, true, false, true, true, false, true, false, false, false, false, false, false, false] rfl rfl (by kernel_rfl) (fun _ _ _ h => h) (Or.inl ⟨by rfl, ?_⟩) ?_ ?_
  rotate_left
  · intro w'
    go_simp
    with_reducible rfl
  rotate_left
  · simp only [Act.put, List.setIfInBounds_toArray, List.set_cons_zero, List.set_cons_succ, i64_w, i32_w]
    rfl
  refine pure_ (i := 7) (N := some 14) (v := ?_) (a' := ?_) #[true, true, false, true, true, false, true, true, false, false, false, false, false, false] rfl rfl (by kernel_rfl) (fun _ _ _ h => h) (Or.inl ⟨by rfl, ?_⟩) ?_ ?_
  rotate_left
  · intro w'
    go_simp
    with_reducible rfl
  rotate_left
  · simp only [Act.put, List.setIfInBounds_toArray, List.set_cons_zero, List.set_cons_succ, i64_w, i32_w]
    rfl
  refine pure_ (i := 9) (N := some 16) (v := ?_) (a' := ?_) #[true, true, false, true, true, false, true, true, false, true, false, false, false, false] rfl rfl (by kernel_rfl) (fun _ _ _ h => h) (Or.inl ⟨by rfl, ?_⟩) ?_ ?_
  rotate_left
  · intro w'
    go_simp
    with_reducible rfl
  rotate_left
  · simp only [Act.put, List.setIfInBounds_toArray, List.set_cons_zero, List.set_cons_succ, i64_w, i32_w]
    rfl
  rw [e1]
  refine hp.out _ ?hq ?hf
  case hq =>
    intro c a d v W h
    cases d <;> exact h
  clear hp
  intro v9 v12 v15 v17 W HB O5 O8 O10 N8_10
  obtain ⟨Ao12, co12, eo12⟩ := Kd.R_slice O5
  obtain ⟨Ao15, co15, eo15⟩ := Kd.R_slice O8
  obtain ⟨Ao17, co17, eo17⟩ := Kd.R_slice O10
  have BK3 := blk_below BK.out HB
  have hHeld := And.intro ((blk_cell BK3 0).trans rfl) ((blk_cell BK3 1).trans rfl)
  refine pure_ (i := 11) (N := some 18) (v := .agg #[.slice A0_0 l0_0.length c0_0, v12, v15, v17]) (a' := { tmps := #[.agg #[.slice A0_0 l0_0.length c0_0, .slice A0_1 l0_1.length c0_1], .pointer (some ⟨w.heap.size, 0, none⟩), .pointer none, .int .i64 (l0_0.length : Int), .pointer (some ⟨w.heap.size, 0, none⟩), .slice A0_0 l0_0.length c0_0, .int .i64 (l0_0.length : Int), .pointer (some ⟨w.heap.size, 0, none⟩), .slice A0_0 l0_0.length c0_0, v9, .pointer (some ⟨w.heap.size, 1, none⟩), .slice A0_1 l0_1.length c0_1, v12, .int .i64 (l0_0.length : Int), .int .i64 ((l0_0.length : Int) + 1), v15, .int .i64 (l0_0.length : Int), v17, .agg #[.slice A0_0 l0_0.length c0_0, v12, v15, v17], undef], defers := [] }) #[true, true, true, true, true, true, true, true, true, true, true, true, false, false] loNew_op11 rfl (by kernel_rfl) (fun _ _ _ h => h) (Or.inl ⟨by rfl, ?_⟩) (by simp only [Act.put, List.setIfInBounds_toArray, List.set_cons_zero, List.set_cons_succ]) ?_
  · intro w'
    rw [eo12, eo15, eo17]
    go_simp
    first | done | rfl
  refine one_ (i := 12) (N := some 19) #[true, true, true, true, true, true, true, true, true, true, true, true, true, false] loNew_op12 rfl (by kernel_rfl) (by decide) (fun K hK => ?_)
  refine value_ (v := .pointer (some ⟨W.heap.size, 0, none⟩)) (w1 := W.alloc (.cells #[.slice A0_0 l0_0.length c0_0, v12, v15, v17] 67)) rfl rfl ?_ ?_
  · go_simp
    first | done | rfl
  refine hK.out _ _ ⟨(blk_cell (blk_alloc BK3 _) 0).trans rfl, (blk_cell (blk_alloc BK3 _) 1).trans rfl⟩ (fun _ => ?_)
  clear hK K
  refine norm_ (a' := { tmps := #[.agg #[.slice A0_0 l0_0.length c0_0, .slice A0_1 l0_1.length c0_1], .pointer (some ⟨w.heap.size, 0, none⟩), .pointer none, .int .i64 (l0_0.length : Int), .pointer (some ⟨w.heap.size, 0, none⟩), .slice A0_0 l0_0.length c0_0, .int .i64 (l0_0.length : Int), .pointer (some ⟨w.heap.size, 0, none⟩), .slice A0_0 l0_0.length c0_0, v9, .pointer (some ⟨w.heap.size, 1, none⟩), .slice A0_1 l0_1.length c0_1, v12, .int .i64 (l0_0.length : Int), .int .i64 ((l0_0.length : Int) + 1), v15, .int .i64 (l0_0.length : Int), v17, .agg #[.slice A0_0 l0_0.length c0_0, v12, v15, v17], .pointer (some ⟨W.heap.size, 0, none⟩)], defers := [] }) (by show Act.put _ (some 19) _ = _; simp only [Act.put, List.setIfInBounds_toArray, List.set_cons_zero, List.set_cons_succ]) ?_
  refine pure_ (i := 13) (N := some 2) (v := .pointer (some ⟨W.heap.size, 0, none⟩)) (a' := { tmps := #[.agg #[.slice A0_0 l0_0.length c0_0, .slice A0_1 l0_1.length c0_1], .pointer (some ⟨w.heap.size, 0, none⟩), .pointer (some ⟨W.heap.size, 0, none⟩), .int .i64 (l0_0.length : Int), .pointer (some ⟨w.heap.size, 0, none⟩), .slice A0_0 l0_0.length c0_0, .int .i64 (l0_0.length : Int), .pointer (some ⟨w.heap.size, 0, none⟩), .slice A0_0 l0_0.length c0_0, v9, .pointer (some ⟨w.heap.size, 1, none⟩), .slice A0_1 l0_1.length c0_1, v12, .int .i64 (l0_0.length : Int), .int .i64 ((l0_0.length : Int) + 1), v15, .int .i64 (l0_0.length : Int), v17, .agg #[.slice A0_0 l0_0.length c0_0, v12, v15, v17], .pointer (some ⟨W.heap.size, 0, none⟩)], defers := [] }) #[true, true, true, true, true, true, true, true, true, true, true, true, true, true] loNew_op13 rfl (by kernel_rfl) (fun _ _ _ h => h) (Or.inl ⟨by rfl, ?_⟩) (by simp only [Act.put, List.setIfInBounds_toArray, List.set_cons_zero, List.set_cons_succ]) ?_
  · intro w'
    go_simp
    first | done | rfl
  refine done_ (by kernel_rfl) ?_
  go_wp2
  go_ret
  have hz := HB0.out.size
  have HB1 := below_then HB0.out hz HB
  exact ⟨W.heap.size, v12, v15, v17, rfl, HB1.size, hw_new0 _ _, below_alloc HB1 _, Kd.R_alloc (Kd.R_lower O5 hz) _, Kd.R_alloc (Kd.R_lower O8 hz) _, Kd.R_alloc (Kd.R_lower O10 hz) _, N8_10⟩
theorem loNew.calls (A0_0 : Option Addr) (c0_0 : Nat) (l0_0 : List Int) (A0_1 : Option Addr) (c0_1 : Nat) (l0_1 : List Bool) (w : World) (hr0 : Kd.C (Kd.int .i64) w A0_0 l0_0.length l0_0) (hc0 : l0_0.length ≤ c0_0) (hr1 : Kd.C Kd.bool w A0_1 l0_1.length l0_1) (hc1 : l0_1.length ≤ c0_1) (hl0 : l0_0.length ≤ 1000) (hl1 : l0_1.length ≤ 1000) (hlen : l0_1.length = l0_0.length) (hpos : 1 ≤ l0_0.length) :
    Calls Try.prog 48 #[.agg #[.slice A0_0 l0_0.length c0_0, .slice A0_1 l0_1.length c0_1]] w fun e w' => ∃ p : PA, e = .returned (.pointer (some ⟨p.g, 0, none⟩)) ∧ p.n = l0_0.length ∧ w.heap.size ≤ p.g ∧ Pas 67 w.heap.size p (newS l0_0 l0_1) w' ∧ Below w.heap.size w w' := by
  refine (loNew.raw A0_0 c0_0 l0_0 A0_1 c0_1 l0_1 w hr0 hc0 hr1 hc1 hl0 hl1).mono ?_
  rintro e w' ⟨g, v12, v15, v17, rfl, hg, hh, hb, o8, o14, o18, hne⟩
  obtain ⟨g8, c8, cu8, rfl, hb8, hh8⟩ := blockB o8 (by omega)
  obtain ⟨g14, c14, cu14, rfl, hb14, hh14⟩ := blockI o14 (by simp)
  obtain ⟨g18, c18, cu18, rfl, hb18, hh18⟩ := blockI o18 (by simp; omega)
  rw [hlen] at hh o8
  rw [List.length_replicate, List.length_replicate] at hh
  rw [List.length_replicate] at o14 o18
  refine ⟨⟨g, A0_0, c0_0, g8, c8, g14, c14, g18, c18, l0_0.length⟩, rfl, rfl, hg, ?_, hb⟩
  exact { box := hh
          lf := Kd.C_kept_came (Kd.heap_int .i64) hr0 hb (fun k hk => by rcases hk with rfl | rfl | rfl <;> assumption)
          r8 := okB o8
          r14 := okI o14
          r18 := okI o18
          a1 := blk_ne hh8 hh14 (by decide)
          a2 := blk_ne hh8 hh18 (by decide)
          a3 := fun e => hne g14 (by simp [Value.ownBlock]) (by simp [Value.ownBlock, show g18 = g14 from e.symm])
          ag := fun hk => by
            rcases hk with e | e | e
            · exact blk_ne hh hh8 (by decide) e
            · exact blk_ne hh hh14 (by decide) e
            · exact blk_ne hh hh18 (by decide) e
          hc := hc0
          hn := ⟨hpos, hl0⟩ }
theorem loFlight_op5 : (opsOf Try.f50 1)[5]? = some { dst := (some 8), op := (Op.buildSlice 23 0 #[]), type := 23, pos := "l8_lock.go:92", after := #[], guard := none } := by kernel_rfl
theorem loFlight_op11 : (opsOf Try.f50 1)[11]? = some { dst := (some 14), op := (Op.build 29 #[(0, (Operand.tmp 7)), (1, (Operand.tmp 13))]), type := 29, pos := "l8_lock.go:92", after := #[{ on := 4, ground := Ground.data }, { on := 10, ground := Ground.data }], guard := none } := by kernel_rfl
theorem loFlight_op12 : (opsOf Try.f50 1)[12]? = some { dst := none, op := (Op.store 29 (Operand.tmp 2) (Operand.tmp 14)), type := 0, pos := "l8_lock.go:92", after := #[{ on := 11, ground := Ground.data }, { on := 10, ground := Ground.chain }, { on := 0, ground := Ground.phase }, { on := 1, ground := Ground.phase }, { on := 2, ground := Ground.phase }, { on := 3, ground := Ground.phase }, { on := 4, ground := Ground.phase }, { on := 5, ground := Ground.phase }, { on := 6, ground := Ground.phase }, { on := 7, ground := Ground.phase }, { on := 8, ground := Ground.phase }, { on := 9, ground := Ground.phase }, { on := 10, ground := Ground.phase }, { on := 11, ground := Ground.phase }], guard := none } := by kernel_rfl
set_option maxHeartbeats 4000000 in
set_option maxRecDepth 100000 in
theorem loFlight_region (g : Nat) (A5 : Option Addr) (c5 g8 c8 : Nat) (lf : List Int) (fu : List Bool) (rb : Nat) (w : World) (Q : Exit → Act → World → Prop) (hQ : ∀ c a d v W, Q (.panic c) (a.put d v) W → Q (.panic c) a W) (h0 : w.cell? ⟨g, 0, none⟩ = some (.slice A5 lf.length c5)) (h1 : w.cell? ⟨g, 1, none⟩ = some (.slice (some ⟨g8, 0, none⟩) fu.length c8)) (hC5 : Kd.C (Kd.int .i64) w A5 lf.length lf) (hc5 : lf.length ≤ c5) (hC8 : Kd.C Kd.bool w (some ⟨g8, 0, none⟩) fu.length fu) (hl0 : lf.length ≤ 1000) (hl1 : fu.length ≤ 1000)
    (h_4_5_10 : ∀ (v7 v8 v13 : Value) (W : World), Go.RowKit.Below w.heap.size w W → Kd.R (Kd.int .i64) 3 W w.heap.size (fun _ => True) v7 lf → Kd.R Kd.bool 4 W w.heap.size (fun _ => True) v13 fu → wpAnyLast Try.prog .any (opsOf Try.f50 1) Q (fun w' : World => w'.cell? ⟨g, 0, none⟩ = some (.slice A5 lf.length c5) ∧ w'.cell? ⟨g, 1, none⟩ = some (.slice (some ⟨g8, 0, none⟩) fu.length c8)) [] 2 #[true, true, true, true, true, true, true, true, true, true, true, false, false] { tmps := #[.pointer (some ⟨g, 0, none⟩), undef, .pointer (some ⟨rb, 0, none⟩), .pointer (some ⟨g, 0, none⟩), .pointer (some ⟨g, 0, none⟩), .pointer (some ⟨g, 0, none⟩), .slice A5 lf.length c5, v7, v8, .pointer (some ⟨g, 0, none⟩), .pointer (some ⟨g, 0, none⟩), .pointer (some ⟨g, 1, none⟩), .slice (some ⟨g8, 0, none⟩) fu.length c8, v13, undef], defers := [] } W)
    (W : World) (HB : Go.RowKit.Below w.heap.size w W) : wpAnyLast Try.prog .any (opsOf Try.f50 1) Q (fun w' : World => w'.cell? ⟨g, 0, none⟩ = some (.slice A5 lf.length c5) ∧ w'.cell? ⟨g, 1, none⟩ = some (.slice (some ⟨g8, 0, none⟩) fu.length c8)) [] 5 #[true, true, true, true, false, false, true, true, true, true, false, false, false] { tmps := #[.pointer (some ⟨g, 0, none⟩), undef, .pointer (some ⟨rb, 0, none⟩), .pointer (some ⟨g, 0, none⟩), .pointer (some ⟨g, 0, none⟩), .pointer (some ⟨g, 0, none⟩), .slice A5 lf.length c5, undef, undef, .pointer (some ⟨g, 0, none⟩), .pointer (some ⟨g, 0, none⟩), .pointer (some ⟨g, 1, none⟩), .slice (some ⟨g8, 0, none⟩) fu.length c8, undef, undef], defers := [] } W := by
  have h_4_5 : ∀ (v7 v8 : Value) (W : World), Go.RowKit.Below w.heap.size w W → Kd.R (Kd.int .i64) 3 W w.heap.size (fun _ => True) v7 lf → Kd.R Kd.bool 4 W w.heap.size (fun _ => True) v8 ([] : List Bool) → wpAnyLast Try.prog .any (opsOf Try.f50 1) Q (fun w' : World => w'.cell? ⟨g, 0, none⟩ = some (.slice A5 lf.length c5) ∧ w'.cell? ⟨g, 1, none⟩ = some (.slice (some ⟨g8, 0, none⟩) fu.length c8)) [] 3 #[true, true, true, true, true, true, true, true, true, true, false, false, false] { tmps := #[.pointer (some ⟨g, 0, none⟩), undef, .pointer (some ⟨rb, 0, none⟩), .pointer (some ⟨g, 0, none⟩), .pointer (some ⟨g, 0, none⟩), .pointer (some ⟨g, 0, none⟩), .slice A5 lf.length c5, v7, v8, .pointer (some ⟨g, 0, none⟩), .pointer (some ⟨g, 0, none⟩), .pointer (some ⟨g, 1, none⟩), .slice (some ⟨g8, 0, none⟩) fu.length c8, undef, undef], defers := [] } W := by
    intro v7 v8 W HB O4 O5
    refine wpAnyLast_ready (rs := [10]) (by kernel_rfl) (by simp) (AllReadyL.cons (i := 10) rfl (by decide) (fun K hK => ?a10) AllReadyL.nil)
    case a10 =>
      refine Kd.R_append_rows_step Kd.bool (w0 := w) w.heap.size rfl (.tmp 8) (.tmp 12) 23 4 (.bool false) 1 rfl Try.underlying23 info4 rfl (by decide) (by omega) v8 [] fu (some ⟨g8, 0, none⟩) fu.length c8 (fun _ => True) (fun _ => False) rfl rfl O5 (Kd.C_below hC8 HB) (fun _ _ h => h) (fun _ h => h.elim) (fun _ _ => trivial) HB HB.size (by simp; omega) ?_
      intro v13 W2 ho hb hg_ hn_
      rw [List.nil_append] at ho
      have HB2 := hb
      refine hK.out _ _ ⟨pw_cell_below HB2 h0, pw_cell_below HB2 h1⟩ (fun _ => ?_)
      refine norm_ (a' := { tmps := #[.pointer (some ⟨g, 0, none⟩), undef, .pointer (some ⟨rb, 0, none⟩), .pointer (some ⟨g, 0, none⟩), .pointer (some ⟨g, 0, none⟩), .pointer (some ⟨g, 0, none⟩), .slice A5 lf.length c5, v7, v8, .pointer (some ⟨g, 0, none⟩), .pointer (some ⟨g, 0, none⟩), .pointer (some ⟨g, 1, none⟩), .slice (some ⟨g8, 0, none⟩) fu.length c8, v13, undef], defers := [] }) (by show Act.put _ (some 13) _ = _; simp only [Act.put, List.setIfInBounds_toArray, List.set_cons_zero, List.set_cons_succ]) ?_
      (try simp only [List.setIfInBounds_toArray, List.set_cons_zero, List.set_cons_succ])
      exact h_4_5_10 v7 v8 v13 W2 HB2 (Kd.R_over O4 O5 (fun q hq => by simp [Kd.int, Kd.bool, Kd.scalar] at hq; rw [hq]; decide) hg_) ho
  have h_4 : ∀ (v7 : Value) (W : World), Go.RowKit.Below w.heap.size w W → Kd.R (Kd.int .i64) 3 W w.heap.size (fun _ => True) v7 lf → wpAnyLast Try.prog .any (opsOf Try.f50 1) Q (fun w' : World => w'.cell? ⟨g, 0, none⟩ = some (.slice A5 lf.length c5) ∧ w'.cell? ⟨g, 1, none⟩ = some (.slice (some ⟨g8, 0, none⟩) fu.length c8)) [] 4 #[true, true, true, true, true, false, true, true, true, true, false, false, false] { tmps := #[.pointer (some ⟨g, 0, none⟩), undef, .pointer (some ⟨rb, 0, none⟩), .pointer (some ⟨g, 0, none⟩), .pointer (some ⟨g, 0, none⟩), .pointer (some ⟨g, 0, none⟩), .slice A5 lf.length c5, v7, undef, .pointer (some ⟨g, 0, none⟩), .pointer (some ⟨g, 0, none⟩), .pointer (some ⟨g, 1, none⟩), .slice (some ⟨g8, 0, none⟩) fu.length c8, undef, undef], defers := [] } W := by
    intro v7 W HB O4
    refine wpAnyLast_ready (rs := [5]) (by kernel_rfl) (by simp) (AllReadyL.cons (i := 5) loFlight_op5 (by decide) (fun K hK => ?a5) AllReadyL.nil)
    case a5 =>
      refine Kd.R_lit_step Kd.bool (w0 := W) W.heap.size 4 rfl (N := 8) rfl (xs := []) (inner := []) (ok := fun _ => True) (okp := fun _ => True) ?hr (Reps.none _ _) (fun _ h => h) trivial (Go.RowKit.Below.refl _ _) (Nat.le_refl _) (by simp) ?_
      case hr => first | (go_simp; done) | (go_simp; rfl)
      intro v8 W2 ho hb hg_ hn_
      have HB2 := below_then HB HB.size hb
      refine hK.out _ _ ⟨pw_cell_below HB2 h0, pw_cell_below HB2 h1⟩ (fun _ => ?_)
      refine norm_ (a' := { tmps := #[.pointer (some ⟨g, 0, none⟩), undef, .pointer (some ⟨rb, 0, none⟩), .pointer (some ⟨g, 0, none⟩), .pointer (some ⟨g, 0, none⟩), .pointer (some ⟨g, 0, none⟩), .slice A5 lf.length c5, v7, v8, .pointer (some ⟨g, 0, none⟩), .pointer (some ⟨g, 0, none⟩), .pointer (some ⟨g, 1, none⟩), .slice (some ⟨g8, 0, none⟩) fu.length c8, undef, undef], defers := [] }) (by show Act.put _ (some 8) _ = _; simp only [Act.put, List.setIfInBounds_toArray, List.set_cons_zero, List.set_cons_succ]) ?_
      (try simp only [List.setIfInBounds_toArray, List.set_cons_zero, List.set_cons_succ])
      exact h_4_5 v7 v8 W2 HB2 (Kd.R_below O4 hb) (Kd.R_lower ho HB.size)
  have h_5 : ∀ (v8 : Value) (W : World), Go.RowKit.Below w.heap.size w W → Kd.R Kd.bool 4 W w.heap.size (fun _ => True) v8 ([] : List Bool) → wpAnyLast Try.prog .any (opsOf Try.f50 1) Q (fun w' : World => w'.cell? ⟨g, 0, none⟩ = some (.slice A5 lf.length c5) ∧ w'.cell? ⟨g, 1, none⟩ = some (.slice (some ⟨g8, 0, none⟩) fu.length c8)) [] 4 #[true, true, true, true, false, true, true, true, true, true, false, false, false] { tmps := #[.pointer (some ⟨g, 0, none⟩), undef, .pointer (some ⟨rb, 0, none⟩), .pointer (some ⟨g, 0, none⟩), .pointer (some ⟨g, 0, none⟩), .pointer (some ⟨g, 0, none⟩), .slice A5 lf.length c5, undef, v8, .pointer (some ⟨g, 0, none⟩), .pointer (some ⟨g, 0, none⟩), .pointer (some ⟨g, 1, none⟩), .slice (some ⟨g8, 0, none⟩) fu.length c8, undef, undef], defers := [] } W := by
    intro v8 W HB O5
    refine wpAnyLast_ready (rs := [4]) (by kernel_rfl) (by simp) (AllReadyL.cons (i := 4) rfl (by decide) (fun K hK => ?a4) AllReadyL.nil)
    case a4 =>
      refine goes_ Try.func64 (by kernel_rfl) rfl #[.slice A5 lf.length c5] (by rfl) rfl rfl (by (try simp only [List.map_toArray, List.map_cons, List.map_nil]); first | done | rfl) ?_
      refine (spec_l1Own.calls _ _ lf lf W (Kd.C_below hC5 HB) hc5 (by unfold spec_l1Own.f; simp only [Option.bind_some, List.length_nil, List.nil_append]; rw [if_pos (by omega)])).mono ?_
      rintro e W2 ⟨v7, rfl, ho, hb⟩
      refine ⟨_, rfl, ?_⟩
      have HB2 := below_then HB HB.size hb
      refine hK.out _ _ ⟨pw_cell_below HB2 h0, pw_cell_below HB2 h1⟩ (fun _ => ?_)
      refine norm_ (a' := { tmps := #[.pointer (some ⟨g, 0, none⟩), undef, .pointer (some ⟨rb, 0, none⟩), .pointer (some ⟨g, 0, none⟩), .pointer (some ⟨g, 0, none⟩), .pointer (some ⟨g, 0, none⟩), .slice A5 lf.length c5, v7, v8, .pointer (some ⟨g, 0, none⟩), .pointer (some ⟨g, 0, none⟩), .pointer (some ⟨g, 1, none⟩), .slice (some ⟨g8, 0, none⟩) fu.length c8, undef, undef], defers := [] }) (by show Act.put _ (some 7) _ = _; simp only [Act.put, List.setIfInBounds_toArray, List.set_cons_zero, List.set_cons_succ]) ?_
      (try simp only [List.setIfInBounds_toArray, List.set_cons_zero, List.set_cons_succ])
      exact h_4_5 v7 v8 W2 HB2 (Kd.R_lower ho HB.size) (Kd.R_below O5 hb)
  refine wpAnyLast_ready (rs := [4, 5]) (by kernel_rfl) (by simp) (AllReadyL.cons (i := 4) rfl (by decide) (fun K hK => ?a4) (AllReadyL.cons (i := 5) loFlight_op5 (by decide) (fun K hK => ?a5) AllReadyL.nil))
  case a4 =>
    refine goes_ Try.func64 (by kernel_rfl) rfl #[.slice A5 lf.length c5] (by rfl) rfl rfl (by (try simp only [List.map_toArray, List.map_cons, List.map_nil]); first | done | rfl) ?_
    refine (spec_l1Own.calls _ _ lf lf W (Kd.C_below hC5 HB) hc5 (by unfold spec_l1Own.f; simp only [Option.bind_some, List.length_nil, List.nil_append]; rw [if_pos (by omega)])).mono ?_
    rintro e W2 ⟨v7, rfl, ho, hb⟩
    refine ⟨_, rfl, ?_⟩
    have HB2 := below_then HB HB.size hb
    refine hK.out _ _ ⟨pw_cell_below HB2 h0, pw_cell_below HB2 h1⟩ (fun _ => ?_)
    refine norm_ (a' := { tmps := #[.pointer (some ⟨g, 0, none⟩), undef, .pointer (some ⟨rb, 0, none⟩), .pointer (some ⟨g, 0, none⟩), .pointer (some ⟨g, 0, none⟩), .pointer (some ⟨g, 0, none⟩), .slice A5 lf.length c5, v7, undef, .pointer (some ⟨g, 0, none⟩), .pointer (some ⟨g, 0, none⟩), .pointer (some ⟨g, 1, none⟩), .slice (some ⟨g8, 0, none⟩) fu.length c8, undef, undef], defers := [] }) (by show Act.put _ (some 7) _ = _; simp only [Act.put, List.setIfInBounds_toArray, List.set_cons_zero, List.set_cons_succ]) ?_
    (try simp only [List.setIfInBounds_toArray, List.set_cons_zero, List.set_cons_succ])
    exact h_4 v7 W2 HB2 (Kd.R_lower ho HB.size)
  case a5 =>
    refine Kd.R_lit_step Kd.bool (w0 := W) W.heap.size 4 rfl (N := 8) rfl (xs := []) (inner := []) (ok := fun _ => True) (okp := fun _ => True) ?hr (Reps.none _ _) (fun _ h => h) trivial (Go.RowKit.Below.refl _ _) (Nat.le_refl _) (by simp) ?_
    case hr => first | (go_simp; done) | (go_simp; rfl)
    intro v8 W2 ho hb hg_ hn_
    have HB2 := below_then HB HB.size hb
    refine hK.out _ _ ⟨pw_cell_below HB2 h0, pw_cell_below HB2 h1⟩ (fun _ => ?_)
    refine norm_ (a' := { tmps := #[.pointer (some ⟨g, 0, none⟩), undef, .pointer (some ⟨rb, 0, none⟩), .pointer (some ⟨g, 0, none⟩), .pointer (some ⟨g, 0, none⟩), .pointer (some ⟨g, 0, none⟩), .slice A5 lf.length c5, undef, v8, .pointer (some ⟨g, 0, none⟩), .pointer (some ⟨g, 0, none⟩), .pointer (some ⟨g, 1, none⟩), .slice (some ⟨g8, 0, none⟩) fu.length c8, undef, undef], defers := [] }) (by show Act.put _ (some 8) _ = _; simp only [Act.put, List.setIfInBounds_toArray, List.set_cons_zero, List.set_cons_succ]) ?_
    (try simp only [List.setIfInBounds_toArray, List.set_cons_zero, List.set_cons_succ])
    exact h_5 v8 W2 HB2 (Kd.R_lower ho HB.size)
set_option maxHeartbeats 4000000 in
set_option maxRecDepth 100000 in
theorem loFlight.calls (b : Nat) (p : PA) (s : PS) (w : World) (hP : Pas 67 b p s w) :
    Calls Try.prog 50 #[.pointer (some ⟨p.g, 0, none⟩)] w fun e w' => ∃ v7 v13 : Value, e = .returned (.agg #[v7, v13]) ∧ Kd.R (Kd.int .i64) 3 w' w.heap.size (fun _ => True) v7 s.lf ∧ Kd.R Kd.bool 4 w' w.heap.size (fun _ => True) v13 s.fu ∧ Go.RowKit.Below w.heap.size w w' := by
  have hu29 := Try.underlying29
  obtain ⟨g, A5, c5, g8, c8, g14, c14, g18, c18, n⟩ := p
  obtain ⟨lf, fu, ch, fi⟩ := s
  have hC5 := hP.lf w (Kept.refl _ _)
  have hl5 := hC5.1
  have hl8 := hP.len.1
  have hn := hP.hn.2
  have hcc := hP.hc
  have hC8 := (Kd.R_reads' hP.r8).2.2
  obtain ⟨h0, h1, _, _⟩ := hP.cells
  dsimp only at hC5 hl5 hl8 hn hcc hC8 h0 h1 ⊢
  have h1' : w.cell? ⟨g, 1, none⟩ = some (.slice (some ⟨g8, 0, none⟩) fu.length c8) := by rw [hl8]; exact h1
  have h0' : w.cell? ⟨g, 0, none⟩ = some (.slice A5 lf.length c5) := by rw [hl5]; exact h0
  have hC5' : Kd.C (Kd.int .i64) w A5 lf.length lf := by rw [hl5]; exact hC5
  have HB0 := Aside0.mk (below_drew1 (below_alloc (Go.RowKit.Below.refl w.heap.size w) (.cells #[.slice none 0 0, .slice none 0 0] 29)))
  have BK := Aside0.mk (blk_drew (hw_new0 w (.cells #[.slice none 0 0, .slice none 0 0] 29)))
  have hp := Aside0.mk (fun Q hQ hfin => loFlight_region g A5 c5 g8 c8 lf fu w.heap.size ((w.alloc (.cells #[.slice none 0 0, .slice none 0 0] 29)).drew) Q hQ (pw_cell_below HB0.out h0') (pw_cell_below HB0.out h1') (Kd.C_below hC5' HB0.out) (by omega) (Kd.C_below hC8 HB0.out) (by omega) (by omega) hfin _ (Go.RowKit.Below.refl _ _))
  have H0 := Aside0.mk h0'
  have H1 := Aside0.mk h1'
  clear h0 h1 h0' h1' hC5 hC5' hC8 hP hl5 hl8 hn hcc
  go_enter Try.func50, Try.ntmps50
  go_wp2
  refine start_ (n := 13) (S := fun w' => w'.cell? ⟨g, 0, none⟩ = some (.slice A5 lf.length c5) ∧ w'.cell? ⟨g, 1, none⟩ = some (.slice (some ⟨g8, 0, none⟩) fu.length c8)) (ds := []) #[false, false, false, false, false, false, false, false, false, false, false, false, false] (by kernel_rfl) rfl rfl ⟨pw_cell_below HB0.out H0.out, pw_cell_below HB0.out H1.out⟩ (fun hHeld => ?_)
  refine pure_ (i := 0) (N := some 3) (v := ?_) (a' := ?_) #[true, false, false, false, false, false, false, false, false, false, false, false, false] rfl rfl (by kernel_rfl) (fun _ _ _ h => h) (Or.inl ⟨by rfl, ?_⟩) ?_ ?_
  rotate_left
  · intro w'
    go_simp
    with_reducible rfl
  rotate_left
  · simp only [Act.put, List.setIfInBounds_toArray, List.set_cons_zero, List.set_cons_succ, i64_w, i32_w]
    rfl
  refine pure_ (i := 1) (N := some 4) (v := ?_) (a' := ?_) #[true, true, false, false, false, false, false, false, false, false, false, false, false] rfl rfl (by kernel_rfl) (fun _ _ _ h => h) (Or.inl ⟨by rfl, ?_⟩) ?_ ?_
  rotate_left
  · intro w'
    go_simp
    with_reducible rfl
  rotate_left
  · simp only [Act.put, List.setIfInBounds_toArray, List.set_cons_zero, List.set_cons_succ, i64_w, i32_w]
    rfl
  refine pure_ (i := 2) (N := some 5) (v := ?_) (a' := ?_) #[true, true, true, false, false, false, false, false, false, false, false, false, false] rfl rfl (by kernel_rfl) (fun _ _ _ h => h) (Or.inl ⟨by rfl, ?_⟩) ?_ ?_
  rotate_left
  · intro w'
    go_simp
    with_reducible rfl
  rotate_left
  · simp only [Act.put, List.setIfInBounds_toArray, List.set_cons_zero, List.set_cons_succ, i64_w, i32_w]
    rfl
  refine take_ (i := 3) (N := some 6) (v := ?_) (a' := ?_) #[true, true, true, true, false, false, false, false, false, false, false, false, false] rfl rfl (by kernel_rfl) (fun _ _ _ h => h) (Or.inl ⟨by rfl, ?_⟩) hHeld ?_ ?_
  rotate_left
  · rintro w' ⟨s0, s1⟩
    go_simp
    with_reducible rfl
  rotate_left
  · simp only [Act.put, List.setIfInBounds_toArray, List.set_cons_zero, List.set_cons_succ, i64_w, i32_w]
    rfl
  refine pure_ (i := 6) (N := some 9) (v := ?_) (a' := ?_) #[true, true, true, true, false, false, true, false, false, false, false, false, false] rfl rfl (by kernel_rfl) (fun _ _ _ h => h) (Or.inl ⟨by rfl, ?_⟩) ?_ ?_
  rotate_left
  · intro w'
    go_simp
    with_reducible rfl
  rotate_left
  · simp only [Act.put, List.setIfInBounds_toArray, List.set_cons_zero, List.set_cons_succ, i64_w, i32_w]
    rfl
  refine pure_ (i := 7) (N := some 10) (v := ?_) (a' := ?_) #[true, true, true, true, false, false, true, true, false, false, false, false, false] rfl rfl (by kernel_rfl) (fun _ _ _ h => h) (Or.inl ⟨by rfl, ?_⟩) ?_ ?_
  rotate_left
  · intro w'
    go_simp
    with_reducible rfl
  rotate_left
  · simp only [Act.put, List.setIfInBounds_toArray, List.set_cons_zero, List.set_cons_succ, i64_w, i32_w]
    rfl
  refine pure_ (i := 8) (N := some 11) (v := ?_) (a' := ?_) #[true, true, true, true, false, false, true, true, true, false, false, false, false] rfl rfl (by kernel_rfl) (fun _ _ _ h => h) (Or.inl ⟨by rfl, ?_⟩) ?_ ?_
  rotate_left
  · intro w'
    go_simp
    with_reducible rfl
  rotate_left
  · simp only [Act.put, List.setIfInBounds_toArray, List.set_cons_zero, List.set_cons_succ, i64_w, i32_w]
    rfl
  refine take_ (i := 9) (N := some 12) (v := ?_) (a' := ?_) #[true, true, true, true, false, false, true, true, true, true, false, false, false] rfl rfl (by kernel_rfl) (fun _ _ _ h => h) (Or.inl ⟨by rfl, ?_⟩) hHeld ?_ ?_
  rotate_left
  · rintro w' ⟨s0, s1⟩
    go_simp
    with_reducible rfl
  rotate_left
  · simp only [Act.put, List.setIfInBounds_toArray, List.set_cons_zero, List.set_cons_succ, i64_w, i32_w]
    rfl
  refine hp.out _ ?hq ?hf
  case hq =>
    intro c a d v W h
    cases d <;> exact h
  clear hp
  intro v7 v8 v13 W HB O4 O10
  obtain ⟨Ao7, co7, eo7⟩ := Kd.R_slice O4
  obtain ⟨Ao13, co13, eo13⟩ := Kd.R_slice O10
  have BK3 := blk_below BK.out HB
  have hHeld := And.intro (pw_cell_below HB (pw_cell_below HB0.out H0.out)) (pw_cell_below HB (pw_cell_below HB0.out H1.out))
  refine pure_ (i := 11) (N := some 14) (v := .agg #[v7, v13]) (a' := { tmps := #[.pointer (some ⟨g, 0, none⟩), undef, .pointer (some ⟨w.heap.size, 0, none⟩), .pointer (some ⟨g, 0, none⟩), .pointer (some ⟨g, 0, none⟩), .pointer (some ⟨g, 0, none⟩), .slice A5 lf.length c5, v7, v8, .pointer (some ⟨g, 0, none⟩), .pointer (some ⟨g, 0, none⟩), .pointer (some ⟨g, 1, none⟩), .slice (some ⟨g8, 0, none⟩) fu.length c8, v13, .agg #[v7, v13]], defers := [] }) #[true, true, true, true, true, true, true, true, true, true, true, true, false] loFlight_op11 rfl (by kernel_rfl) (fun _ _ _ h => h) (Or.inl ⟨by rfl, ?_⟩) (by simp only [Act.put, List.setIfInBounds_toArray, List.set_cons_zero, List.set_cons_succ]) ?_
  · intro w'
    rw [eo7, eo13]
    go_simp
    first | done | rfl
  have hb0 := (blk_cell BK3 0).trans rfl
  have hb1 := (blk_cell BK3 1).trans rfl
  have hf0 := blk_frozen BK3 0
  have hf1 := blk_frozen BK3 1
  have hg : g ≠ w.heap.size := by
    have h_ := World.block_lt_of_cell? w _ H0.out
    dsimp only at h_
    omega
  refine one_ (i := 12) (N := none) #[true, true, true, true, true, true, true, true, true, true, true, true, true] loFlight_op12 rfl (by kernel_rfl) (by decide) (fun K hK => ?_)
  refine skip_ (w1 := (W.setCell ⟨w.heap.size, 0, none⟩ v7).setCell ⟨w.heap.size, 1, none⟩ v13) rfl rfl ?_ ?_
  · rw [eo7, eo13]
    go_simp
    first | done | rfl
  refine hK.out _ _ ⟨(cell_far (p := ⟨w.heap.size, 1, none⟩) hg _).trans ((cell_far (p := ⟨w.heap.size, 0, none⟩) hg _).trans hHeld.1), (cell_far (p := ⟨w.heap.size, 1, none⟩) hg _).trans ((cell_far (p := ⟨w.heap.size, 0, none⟩) hg _).trans hHeld.2)⟩ (fun _ => ?_)
  clear hK K
  refine done_ (by kernel_rfl) ?_
  go_wp2
  have hz := HB0.out.size
  have HB1 := below_then HB0.out hz HB
  clear hb0 hb1 hf0 hf1
  refine bodyPost_ret (results_cell_row rfl _ _ w.heap.size 29 #[v7, v13] (0, 0) _ rfl (blk_put (blk_put (cs := #[.slice none 0 0, .slice none 0 0]) BK3 0 _ rfl) 1 _ rfl) Try.underlying29 rfl (by kernel_rfl)) rfl ?_
  exact ⟨v7, v13, rfl, Kd.R_set (Kd.R_set (Kd.R_lower O4 hz) BK3 (by decide) 0 _) (blk_put BK3 0 _ rfl) (by decide) 1 _, Kd.R_set (Kd.R_set (Kd.R_lower O10 hz) BK3 (by decide) 0 _) (blk_put BK3 0 _ rfl) (by decide) 1 _, below_set (below_set HB1 (Nat.le_refl _)) (Nat.le_refl _)⟩
def spec_RunShip.f (k : Nat) (l0_0 : List Int) (l0_1 : List Bool) (a1 : Bool) : Option (List Int × List Bool × Bool) := (spec_loGood.f k l0_0 l0_1).bind fun t => if t = true then (if l0_1.length = l0_0.length ∧ 1 ≤ l0_0.length ∧ l0_0.length ≤ 1000 then (some ((shipS a1 l0_0.length l0_0.length 0 (newS l0_0 l0_1)).lf, (shipS a1 l0_0.length l0_0.length 0 (newS l0_0 l0_1)).fu, true)) else none) else some ([], [], false)
theorem spec_RunShip.mono : ∀ a0 a1 a2 k, LeO (spec_RunShip.f k a0 a1 a2) (spec_RunShip.f (k + 1) a0 a1 a2) := by
  intro a0 a1 a2 k
  unfold spec_RunShip.f
  exact LeO.bind (spec_loGood.mono _ _ _) (fun _ => LeO.refl _)
set_option maxHeartbeats 4000000 in
set_option maxRecDepth 100000 in
theorem spec_RunShip.calls (k : Nat) (A0_0 : Option Addr) (c0_0 : Nat) (l0_0 : List Int) (A0_1 : Option Addr) (c0_1 : Nat) (l0_1 : List Bool) (a1 : Bool) (r1 : List Int) (r2 : List Bool) (r3 : Bool) (w : World) (hr0_0 : Kd.C (Kd.int .i64) w A0_0 l0_0.length l0_0) (hc0_0 : l0_0.length ≤ c0_0) (hr0_1 : Kd.C Kd.bool w A0_1 l0_1.length l0_1) (hc0_1 : l0_1.length ≤ c0_1) (h : spec_RunShip.f k l0_0 l0_1 a1 = some (r1, r2, r3)) :
    Calls Try.prog 27 #[.agg #[.slice A0_0 l0_0.length c0_0, .slice A0_1 l0_1.length c0_1], .bool a1] w fun e w' => ∃ v0_ v1_ : Value, e = .returned (.tuple #[.agg #[v0_, v1_], .bool r3]) ∧ Kd.R (Kd.int .i64) 3 w' w.heap.size (fun _ => True) v0_ r1 ∧ Kd.R Kd.bool 4 w' w.heap.size (fun _ => True) v1_ r2 ∧ Below w.heap.size w w' := by
  have hu29 := Try.underlying29
  obtain ⟨t, hT, h⟩ := Option.bind_eq_some_iff.mp h
  have HA := Aside0.mk (below_alloc (below_alloc (Below.refl w.heap.size w) (.cells #[.slice A0_0 l0_0.length c0_0, .slice A0_1 l0_1.length c0_1] 29)) (.cells #[.slice none 0 0, .slice none 0 0] 29))
  have BK1 := Aside0.mk (hw_new2 w (.cells #[.slice A0_0 l0_0.length c0_0, .slice A0_1 l0_1.length c0_1] 29) (.cells #[.slice none 0 0, .slice none 0 0] 29))
  have BK2 := Aside0.mk (hw_new1 w (.cells #[.slice A0_0 l0_0.length c0_0, .slice A0_1 l0_1.length c0_1] 29) (.cells #[.slice none 0 0, .slice none 0 0] 29))
  have hT1 := Aside0.mk (fun (W : World) (hb : Below w.heap.size w W) => spec_loGood.calls k A0_0 c0_0 l0_0 A0_1 c0_1 l0_1 t W (Kd.C_below hr0_0 hb) hc0_0 (Kd.C_below hr0_1 hb) hc0_1 hT)
  cases t with
  | false =>
    rw [if_neg (by decide)] at h
    simp only [Option.some.injEq, Prod.mk.injEq] at h
    obtain ⟨rfl, rfl, rfl⟩ := h
    clear hr0_0 hc0_0 hr0_1 hc0_1
    go_enter Try.func27, Try.ntmps27
    go_wp2_with (go_at_call 31; refine (hT1.out _ HA.out).mono ?_; rintro e w1 ⟨rfl, hb⟩; have BL1 := Aside0.mk (blk_below BK1.out hb); have BL2 := Aside0.mk (blk_below BK2.out hb); have HB := Aside0.mk (below_then HA.out HA.out.size hb); clear hb; have hc1 := (blk_cell BL1.out 0).trans rfl; have hc2 := (blk_cell BL1.out 1).trans rfl; have hc3 := (blk_cell BL2.out 0).trans rfl; have hc4 := (blk_cell BL2.out 1).trans rfl; have hf3 := blk_frozen BL2.out 0; have hf4 := blk_frozen BL2.out 1)
    refine bodyPost_ret (results_ct rfl _ _ (w.heap.size + 1) 29 #[.slice none 0 0, .slice none 0 0] (0, 0) _ rfl (blk_put (cs := #[.slice none 0 0, .slice none 0 0]) (blk_put (cs := #[.slice none 0 0, .slice none 0 0]) BL2.out 0 _ rfl) 1 _ rfl) Try.underlying29 rfl (by kernel_rfl)) rfl ?_
    exact ⟨_, _, rfl, Kd.R_nil _ _ _ _ _, Kd.R_nil _ _ _ _ _, below_set (below_set HB.out (Nat.le_succ _)) (Nat.le_succ _)⟩
  | true =>
    rw [if_pos rfl] at h
    by_cases hg : l0_1.length = l0_0.length ∧ 1 ≤ l0_0.length ∧ l0_0.length ≤ 1000
    · rw [if_pos hg] at h
      have HG := Aside0.mk hg
      simp only [Option.some.injEq, Prod.mk.injEq] at h
      obtain ⟨rfl, rfl, rfl⟩ := h
      have hP := Aside0.mk (fun (W : World) (hb : Below w.heap.size w W) => loNew.calls A0_0 c0_0 l0_0 _ c0_1 l0_1 W (Kd.C_below hr0_0 hb) hc0_0 (Kd.C_below hr0_1 hb) hc0_1 hg.2.2 (by have := hg.1; have := hg.2.2; omega) hg.1 hg.2.1)
      clear hr0_0 hc0_0 hr0_1 hc0_1 hg
      go_enter Try.func27, Try.ntmps27
      go_wp2_with (first | (go_at_call 31; refine (hT1.out _ HA.out).mono ?_; rintro e w1 ⟨rfl, hb⟩; have BL1 := Aside0.mk (blk_below BK1.out hb); have BL2 := Aside0.mk (blk_below BK2.out hb); have HB := Aside0.mk (below_then HA.out HA.out.size hb); clear hb; have hc1 := (blk_cell BL1.out 0).trans rfl; have hc2 := (blk_cell BL1.out 1).trans rfl) | (go_at_call 48; refine (hP.out _ HB.out).mono ?_; rintro e w2 ⟨⟨g, A5, c5, g8, c8, g14, c14, g18, c18, n⟩, rfl, en, hg, hp, hb⟩; dsimp only at en hg hp; subst en; have BM2 := Aside0.mk (blk_below BL2.out hb); have HB2 := Aside0.mk (below_then HB.out HB.out.size hb); have PP := Aside0.mk (hp.lower HB.out.size); clear hb hg hp hc1 hc2) | (go_at_call 56; refine (sship.calls w _ _ a1 _ PP.out HB2.out).mono ?_; rintro e w3 ⟨rfl, p3, b3, k3⟩; have BN2 := Aside0.mk (blk_kept BM2.out k3 (PP.out.notS BM2.out (by decide) (by decide))); have P3 := Aside0.mk p3; have B3 := Aside0.mk b3; clear p3 b3 k3) | (go_at_call 50; refine (loFlight.calls _ _ _ _ P3.out).mono ?_; rintro e w4 ⟨v7, v13, rfl, o7, o13, hb⟩; obtain ⟨Ao7, co7, rfl⟩ := Kd.R_slice o7; obtain ⟨Ao13, co13, rfl⟩ := Kd.R_slice o13; have BO2 := Aside0.mk (blk_below BN2.out hb); have HB4 := Aside0.mk (below_then B3.out B3.out.size hb); have O7 := Aside0.mk (Kd.R_lower o7 B3.out.size); have O13 := Aside0.mk (Kd.R_lower o13 B3.out.size); clear o7 o13 hb; have hc3 := (blk_cell BO2.out 0).trans rfl; have hc4 := (blk_cell BO2.out 1).trans rfl; have hf3 := blk_frozen BO2.out 0; have hf4 := blk_frozen BO2.out 1))
      refine bodyPost_ret (results_ct rfl _ _ (w.heap.size + 1) 29 #[.slice Ao7 _ co7, .slice Ao13 _ co13] (0, 0) _ rfl (blk_put (blk_put (cs := #[.slice none 0 0, .slice none 0 0]) BO2.out 0 _ rfl) 1 _ rfl) Try.underlying29 rfl (by kernel_rfl)) rfl ?_
      exact ⟨_, _, rfl, Kd.R_set (Kd.R_set O7.out BO2.out (by decide) 0 _) (blk_put BO2.out 0 _ rfl) (by decide) 1 _, Kd.R_set (Kd.R_set O13.out BO2.out (by decide) 0 _) (blk_put BO2.out 0 _ rfl) (by decide) 1 _, below_set (below_set HB4.out (Nat.le_succ _)) (Nat.le_succ _)⟩
    · rw [if_neg hg] at h
      exact absurd h (by simp)

end Go.Proofs.Ytmedapafllmhjaa.PFnExactRunShip

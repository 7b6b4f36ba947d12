/- What is read at a type of the program stands in memory as a kind of the printed words tells it: for parameters that are structs, slices of structs, slices of slices. Of no program. -/
import Derived.Test.YtobkbpoamicjgaaWWords
import Derived.Deep.Slices
import Derived.Lib.SmallJoins
import Derived.SizedLaws
import Derived.WalkKit
import Derived.ProofKit
import Derived.OpenShut
import Derived.ShutString
namespace Go.Proofs.Ytobkbpoamicjgaa.Opens
set_option linter.unusedVariables false
open Go.ChangeShapes Go.WideShapes Go.Deep Go.RowKit Go.Proofs.YtobkbpoamicjgaaW.PrintWords

/-- What is read at type t: its cells are as d tells them, and ok holds of it. -/
def Opens (P : Program) (t : TypeId) {α : Type} (d : Kd α) (ok : α → Prop) : Prop :=
  ∀ (H : Type) (enc : TypeId × Value → H) (w : World) (base : Nat) (spare : Nat → Bool) (held : Bool) (fuel : Nat) (cs : List Value) (x : DataW H × List MemPlace),
    DataW.trod enc P w base spare held fuel t cs = some x → ∃ a : α, d.K w a cs ∧ ok a

theorem Opens.int {P : Program} {t : TypeId} {k : IntKind} (ht : P.underlying t = some (.int k)) : Opens P t (Kd.int k) (fun n => (Lit.int k n).wf = true) := by
  intro H enc w base spare held fuel cs x h
  obtain ⟨n, rfl, _, hw⟩ := DataW.trod_int ht h
  exact ⟨n, rfl, hw⟩

theorem Opens.bool {P : Program} {t : TypeId} (ht : P.underlying t = some .bool) : Opens P t Kd.bool (fun _ => True) := by
  intro H enc w base spare held fuel cs x h
  obtain ⟨b, rfl, _⟩ := DataW.trod_bool ht h
  exact ⟨b, rfl, trivial⟩

theorem Opens.iso {P : Program} {t : TypeId} {α β : Type} {d : Kd α} {ok : α → Prop} (h : Opens P t d ok) (f : β → α) (g : α → β) (hfg : ∀ a, f (g a) = a) : Opens P t (Kd.iso d f) (fun b => ok (f b)) := by
  intro H enc w base spare held fuel cs x hx
  obtain ⟨a, hK, ha⟩ := h H enc w base spare held fuel cs x hx
  refine ⟨g a, ?_, ?_⟩
  · show d.K w (f (g a)) cs
    rw [hfg]
    exact hK
  · show ok (f (g a))
    rw [hfg]
    exact ha

theorem Opens.imp {P : Program} {t : TypeId} {α : Type} {d : Kd α} {ok ok' : α → Prop} (h : Opens P t d ok) (hi : ∀ a, ok a → ok' a) : Opens P t d ok' := by
  intro H enc w base spare held fuel cs x hx
  obtain ⟨a, hK, ha⟩ := h H enc w base spare held fuel cs x hx
  exact ⟨a, hK, hi a ha⟩

/-- The fields from i on: they begin at cell o and take m cells together. -/
def OpensF (P : Program) (fs : Array Field) (i o m : Nat) {α : Type} (d : Kd α) (ok : α → Prop) : Prop :=
  ∀ (H : Type) (enc : TypeId × Value → H) (w : World) (base : Nat) (spare : Nat → Bool) (held : Bool) (n : Nat) (cs : List Value) (xs : List (DataW H × List MemPlace)),
    xs.length = fs.size → (∀ (j : Nat) (f : Field), fs[j]? = some f → DataW.trod enc P w base spare held n f.type ((cs.drop f.offset).take (P.cellsOf f.type)) = xs[j]?) →
    ∃ a : α, d.K w a ((cs.drop o).take m) ∧ ok a

theorem OpensF.last {P : Program} {fs : Array Field} {i o m : Nat} {f : Field} {α : Type} {d : Kd α} {ok : α → Prop} (hf : fs[i]? = some f) (ho : f.offset = o) (hm : P.cellsOf f.type = m) (h : Opens P f.type d ok) : OpensF P fs i o m d ok := by
  intro H enc w base spare held n cs xs hl hx
  have hi : i < xs.length := by
    rw [hl]
    exact (Array.getElem?_eq_some_iff.1 hf).1
  have h1 := hx i f hf
  rw [ho, hm, List.getElem?_eq_getElem hi] at h1
  exact h H enc w base spare held n _ _ h1

theorem OpensF.cons {P : Program} {fs : Array Field} {i o m0 m1 m : Nat} {f : Field} {α β : Type} {d : Kd α} {ok : α → Prop} {d1 : Kd β} {ok1 : β → Prop} (hf : fs[i]? = some f) (ho : f.offset = o) (hm : P.cellsOf f.type = m0) (h : Opens P f.type d ok)
    (h1 : OpensF P fs (i + 1) (o + m0) m1 d1 ok1) (hmm : m = m0 + m1) : OpensF P fs i o m (Kd.pair d d1) (fun x => ok x.1 ∧ ok1 x.2) := by
  subst hmm
  intro H enc w base spare held n cs xs hl hx
  obtain ⟨a, hK, ha⟩ := OpensF.last hf ho hm h H enc w base spare held n cs xs hl hx
  obtain ⟨b, hK1, hb⟩ := h1 H enc w base spare held n cs xs hl hx
  refine ⟨(a, b), ⟨(cs.drop o).take m0, (cs.drop (o + m0)).take m1, ?_, hK, hK1⟩, ha, hb⟩
  rw [List.take_add, List.drop_drop]

theorem Opens.struct {P : Program} {t : TypeId} {fs : Array Field} {m : Nat} {α : Type} {d : Kd α} {ok : α → Prop} (ht : P.underlying t = some (.struct fs)) (hm : P.cellsOf t = m) (h : OpensF P fs 0 0 m d ok) : Opens P t d ok := by
  intro H enc w base spare held fuel cs x hx
  obtain ⟨xs, n, _, _, hlen, hxl, hf⟩ := DataW.trod_struct ht hx
  obtain ⟨a, hK, ha⟩ := h H enc w base spare held n cs xs hxl hf
  refine ⟨a, ?_, ha⟩
  rw [List.drop_zero, List.take_of_length_le (by omega)] at hK
  exact hK

/-- Elements, one by one, as a list. -/
theorem list_of {α : Type} {n : Nat} {p : Nat → α → Prop} (h : ∀ i, i < n → ∃ a, p i a) : ∃ xs : List α, xs.length = n ∧ ∀ (i : Nat) a, xs[i]? = some a → p i a := by
  induction n with
  | zero => exact ⟨[], rfl, fun i a h => by simp at h⟩
  | succ n ih =>
    obtain ⟨xs, hl, hx⟩ := ih (fun i hi => h i (by omega))
    obtain ⟨a, ha⟩ := h n (by omega)
    refine ⟨xs ++ [a], by simp [hl], fun i b hb => ?_⟩
    by_cases hi : i < xs.length
    · rw [List.getElem?_append_left hi] at hb
      exact hx i b hb
    · rw [List.getElem?_append_right (by omega)] at hb
      by_cases h0 : i - xs.length = 0
      · rw [h0] at hb
        have : a = b := by simpa using hb
        subst this
        have : i = n := by omega
        subst this
        exact ha
      · have : ([a] : List α)[i - xs.length]? = none := by
          rw [List.getElem?_eq_none_iff]
          simp
          omega
        rw [this] at hb
        cases hb

theorem Opens.slice {P : Program} {t e : TypeId} {α : Type} {d : Kd α} {ok : α → Prop} (ht : P.underlying t = some (.slice e)) (hc : P.cellsOf e = d.sz) (h : Opens P e d ok) :
    Opens P t (Kd.slice e d) (fun xs => xs.length ≤ maxLen ∧ ∀ a ∈ xs, ok a) := by
  intro H enc w base spare held fuel cs x hx
  rcases open_slice ht hx with ⟨rfl, _⟩ | ⟨a, len, cap, m, n, D, Pl, rfl, hb, hl, hm, hmm, _, hel⟩
  · exact ⟨[], ⟨none, 0, rfl, Nat.le_refl _, rfl, by simp, fun hp => absurd hp (by simp)⟩, by simp, by simp⟩
  · have hlm : len ≤ m := by rw [hmm]; split <;> omega
    obtain ⟨xs, hxl, hxs⟩ := list_of (α := α) (n := len) (p := fun i b => ok b ∧ ∃ cs', w.cells? base (a.add (i * P.cellsOf e)) (P.cellsOf e) = some cs' ∧ d.K w b cs') (fun i hi => by
      obtain ⟨cs', h1, h2⟩ := hel i (by omega)
      obtain ⟨b, hK, hok⟩ := h H enc w base spare held n _ _ h2
      exact ⟨b, hok, cs', h1, hK⟩)
    subst hxl
    refine ⟨xs, ⟨some a, cap, rfl, hl, rfl, by simp only [maxLen] at hm; omega, fun _ => ⟨a, rfl, fun j b hb => ?_⟩⟩, by omega, fun b hb => ?_⟩
    · obtain ⟨_, cs', h1, hK⟩ := hxs j b hb
      refine ⟨cs', d.K_len hK, hK, fun i u hu => ?_⟩
      obtain ⟨_, hlen, hcell⟩ := World.cells?_some h1
      have hi : i < cs'.length := (List.getElem?_eq_some_iff.1 hu).1
      have := hcell i (by omega)
      rw [hu, Deep.add_add, hc] at this
      exact this
    · obtain ⟨j, hj, rfl⟩ := List.mem_iff_getElem.1 hb
      exact (hxs j _ (List.getElem?_eq_getElem hj)).1

end Go.Proofs.Ytobkbpoamicjgaa.Opens

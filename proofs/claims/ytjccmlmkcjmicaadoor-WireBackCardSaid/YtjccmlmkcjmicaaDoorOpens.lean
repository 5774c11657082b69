/- An argument laid open by its kind: what trod reads, the kind reads. No statement of the program. -/
import Derived.Test.YtjccmlmkcjmicaaDoorWWords
import Derived.Deep.Slices
import Derived.ChangeSame
import Derived.ChangeArms
namespace Go.Proofs.YtjccmlmkcjmicaaDoor.Opens
open Go Go.RowKit Go.ChangeShapes Go.WideShapes Go.Deep Go.Proofs.YtjccmlmkcjmicaaDoorW.PrintWords
set_option linter.unusedVariables false

variable {P : Program}
/-- whatever trod reads as type t, the kind d reads, and it is good -/
structure Opens {α : Type} (P : Program) (d : Kd α) (G : α → Prop) (t : TypeId) : Prop where
  out : ∀ (H : Type) (enc : TypeId × Value → H) (w : World) (base : Nat) (spare : Nat → Bool) (held : Bool) (fuel : Nat) (cs : List Value) (x : DataW H × List MemPlace), DataW.trod enc P w base spare held fuel t cs = some x → ∃ y, d.K w y cs ∧ G y
theorem opens_int {t : TypeId} {k : IntKind} (ht : P.underlying t = some (.int k)) : Opens P (Kd.int k) (fun n => (Lit.int k n).wf = true) t := by
  refine ⟨?_⟩
  intro H enc w base spare held fuel cs x h
  obtain ⟨n, rfl, _, hw⟩ := DataW.trod_int ht h
  exact ⟨n, rfl, hw⟩
theorem opens_bool {t : TypeId} (ht : P.underlying t = some .bool) : Opens P Kd.bool (fun _ => True) t := by
  refine ⟨?_⟩
  intro H enc w base spare held fuel cs x h
  obtain ⟨n, rfl, _⟩ := DataW.trod_bool ht h
  exact ⟨n, rfl, trivial⟩
theorem opens_string {t : TypeId} (ht : P.underlying t = some .string) : Opens P Kd.string (fun s => s.size ≤ maxLen) t := by
  refine ⟨?_⟩
  intro H enc w base spare held fuel cs x h
  obtain ⟨n, rfl, _, hw⟩ := DataW.trod_string ht h
  exact ⟨n, rfl, hw⟩
theorem opens_slice {α : Type} {d : Kd α} {G : α → Prop} {t e : TypeId} (ht : P.underlying t = some (.slice e)) (hs : P.cellsOf e = d.sz) (hd : Opens P d G e) : Opens P (Kd.slice e d) (fun xs => xs.length ≤ maxLen ∧ ∀ x ∈ xs, G x) t := by
  refine ⟨?_⟩
  intro H enc w base spare held fuel cs x h
  rcases open_slice ht h with ⟨rfl, _⟩ | ⟨a, len, cap, m, n, D, Pl, rfl, hb, hl, hm, hmm, hx, hi⟩
  · exact ⟨[], ⟨none, 0, rfl, Nat.le_refl _, Kd.C_nil d w⟩, by simp, by simp⟩
  · have hlm : len ≤ m := by rw [hmm]; split <;> omega
    have hy : ∀ i : Nat, i < len → ∃ y cs', w.cells? base (a.add (i * d.sz)) d.sz = some cs' ∧ d.K w y cs' ∧ G y := by
      intro i hil
      obtain ⟨cs', h1, h2⟩ := hi i (by omega)
      obtain ⟨y, h3, h4⟩ := hd.out _ enc w base spare held n cs' _ h2
      rw [hs] at h1
      exact ⟨y, cs', h1, h3, h4⟩
    have hys : ∀ k : Nat, k ≤ len → ∃ ys : List α, ys.length = k ∧ ∀ i : Nat, i < k → ∃ y cs', ys[i]? = some y ∧ w.cells? base (a.add (i * d.sz)) d.sz = some cs' ∧ d.K w y cs' ∧ G y := by
      intro k
      induction k with
      | zero => intro _; exact ⟨[], rfl, fun i hi => absurd hi (Nat.not_lt_zero i)⟩
      | succ k ih =>
        intro hk
        obtain ⟨ys, hyl, hyi⟩ := ih (by omega)
        obtain ⟨y, cs', h1, h2, h3⟩ := hy k (by omega)
        refine ⟨ys ++ [y], by simp [hyl], fun i hi => ?_⟩
        by_cases hik : i < k
        · obtain ⟨y', cs'', g1, g2⟩ := hyi i hik
          exact ⟨y', cs'', by rw [List.getElem?_append_left (by omega)]; exact g1, g2⟩
        · obtain rfl : i = k := by omega
          exact ⟨y, cs', by rw [List.getElem?_append_right (by omega), hyl]; simp, h1, h2, h3⟩
    obtain ⟨ys, hyl, hyi⟩ := hys len (Nat.le_refl _)
    subst hyl
    refine ⟨ys, ⟨some a, cap, rfl, hl, rfl, ?_, fun _ => ⟨a, rfl, fun j y hyj => ?_⟩⟩, by omega, fun y hy => ?_⟩
    · unfold maxLen at hm; omega
    · have hj : j < ys.length := (List.getElem?_eq_some_iff.1 hyj).1
      obtain ⟨y', cs', g1, g2, g3, _⟩ := hyi j hj
      rw [hyj] at g1
      injection g1 with g1
      subst g1
      obtain ⟨q1, q2, q3⟩ := World.cells?_some g2
      refine ⟨cs', q2, g3, fun i u hu => ?_⟩
      have hil : i < d.sz := by rw [← q2]; exact (List.getElem?_eq_some_iff.1 hu).1
      have := q3 i hil
      rw [hu] at this
      rw [← this, Go.Deep.add_add]
    · obtain ⟨j, hj, rfl⟩ := List.getElem_of_mem hy
      obtain ⟨y, cs', g1, _, _, g4⟩ := hyi j hj
      rw [List.getElem?_eq_getElem hj] at g1
      injection g1 with g1
      rw [g1]
      exact g4
/-- a struct's fields from one on -/
structure OpensF {α : Type} (P : Program) (d : Kd α) (G : α → Prop) (fs : List Field) (o : Nat) : Prop where
  out : ∀ (H : Type) (enc : TypeId × Value → H) (w : World) (base : Nat) (spare : Nat → Bool) (held : Bool) (fuel : Nat) (cs : List Value) (xs : List (DataW H × List MemPlace)),
    xs.length = fs.length → (∀ (i : Nat) (f : Field), fs[i]? = some f → DataW.trod enc P w base spare held fuel f.type ((cs.drop f.offset).take (P.cellsOf f.type)) = xs[i]?) → ∃ y, d.K w y ((cs.drop o).take d.sz) ∧ G y
theorem opensF_one {α : Type} {d : Kd α} {G : α → Prop} {f : Field} {o : Nat} (ho : f.offset = o) (hs : P.cellsOf f.type = d.sz) (hd : Opens P d G f.type) : OpensF P d G [f] o := by
  refine ⟨?_⟩
  intro H enc w base spare held fuel cs xs hl h
  have h0 := h 0 f rfl
  rw [List.getElem?_eq_getElem (by rw [hl]; simp), ho, hs] at h0
  exact hd.out _ enc w base spare held fuel _ _ h0
theorem opensF_cons {α β : Type} {a : Kd α} {b : Kd β} {G : α → Prop} {G' : β → Prop} {f : Field} {fs : List Field} {o : Nat} (ho : f.offset = o) (hs : P.cellsOf f.type = a.sz) (hd : Opens P a G f.type) (hr : OpensF P b G' fs (o + a.sz)) :
    OpensF P (Kd.pair a b) (fun x => G x.1 ∧ G' x.2) (f :: fs) o := by
  refine ⟨?_⟩
  intro H enc w base spare held fuel cs xs hl h
  have h0 := h 0 f rfl
  rw [List.getElem?_eq_getElem (by rw [hl]; simp), ho, hs] at h0
  obtain ⟨y, h1, h2⟩ := hd.out _ enc w base spare held fuel _ _ h0
  cases xs with
  | nil => simp at hl
  | cons x xs =>
    obtain ⟨z, h3, h4⟩ := hr.out _ enc w base spare held fuel cs xs (by simpa using hl) (fun i f' hf => by have := h (i + 1) f' (by simpa using hf); simpa using this)
    refine ⟨(y, z), ⟨_, _, ?_, h1, h3⟩, h2, h4⟩
    show (cs.drop o).take (a.sz + b.sz) = _
    rw [List.take_add, List.drop_drop]
theorem opens_struct {α β : Type} {d : Kd α} {G : α → Prop} {t : TypeId} {fs : Array Field} (f : β → α) (g : α → β) (hfg : ∀ y, f (g y) = y) (ht : P.underlying t = some (.struct fs)) (hs : P.cellsOf t = d.sz) (hd : OpensF P d G fs.toList 0) :
    Opens P (Kd.iso d f) (fun x => G (f x)) t := by
  refine ⟨?_⟩
  intro H enc w base spare held fuel cs x h
  obtain ⟨xs, n, _, _, hl, hxl, hf⟩ := DataW.trod_struct ht h
  obtain ⟨y, h1, h2⟩ := hd.out _ enc w base spare held n cs xs (by simpa using hxl) (fun i f' hf' => hf i f' (by simpa using hf'))
  rw [List.drop_zero, List.take_of_length_le (by omega)] at h1
  refine ⟨g y, ?_, ?_⟩
  · show d.K w (f (g y)) cs
    rw [hfg]; exact h1
  · show G (f (g y))
    rw [hfg]; exact h2
/-- a parameter -/
theorem opens_trod {α : Type} {d : Kd α} {G : α → Prop} {t : TypeId} {H : Type} {enc : TypeId × Value → H} {w : World} {base : Nat} {spare : Nat → Bool} {held : Bool} {v : Value} {x : DataW H} {p : List MemPlace} (hd : Opens P d G t) (h : DataW.Trod enc P w base spare held t v x p) : ∃ y, d.K w y v.cells.toList ∧ G y := by
  obtain ⟨fuel, hf⟩ := h
  exact hd.out _ enc w base spare held fuel _ _ hf
end Go.Proofs.YtjccmlmkcjmicaaDoor.Opens

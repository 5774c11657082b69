/- The listed variables' cells, out of the row's condition; a world that meets it. No statement of the program. An argument laid open by its kind: what trod reads, the kind reads. No statement of the program. -/
import Derived.Test.YthlbcgaegaoanaaDoorRows
import Derived.Test.YthlbcgaegaoanaaDoorMHead
import Derived.ChangeSame
import Derived.ChangeVars
import Derived.JoinedOf
import Derived.RowKit
import Derived.RowKitTokens
import Derived.ProofKit
import Derived.LaidLaws
import Derived.LaidHandle
import Derived.LaidMore
import Derived.OpenShut
import Derived.Stop.Joined
import Derived.Test.YthlbcgaegaoanaaDoorMW
import Derived.Deep.Slices
import Derived.ChangeArms
namespace Go.Proofs.YthlbcgaegaoanaaDoor.Laid
open Go Go.ChangeShapes Go.WideShapes Go.RowKit Go.Proofs.YthlbcgaegaoanaaDoor.Cr
set_option linter.unusedVariables false
set_option linter.unusedSimpArgs false
def laid : List (String × DataW Unit) := [("errors.errorType", Rows.laid_errors_errorType), ("crier/packet.has", Rows.laid_crier_packet_has), ("crier/packet.flags", Rows.laid_crier_packet_flags)]
theorem own : ownKnob Tryd.prog.godebug = none := by kernel_rfl
theorem laidOut : laidOutB Tryd.prog = true := by kernel_rfl
theorem et : Tryd.prog.globalNamed "errors.errorType" = some 0 := by kernel_rfl
theorem gh : Tryd.prog.globalNamed "crier/packet.has" = some 1 := by kernel_rfl
theorem gf : Tryd.prog.globalNamed "crier/packet.flags" = some 2 := by kernel_rfl
theorem th : (Tryd.prog.globals[1]?).map (·.type) = some 100 := by kernel_rfl
theorem tf : (Tryd.prog.globals[2]?).map (·.type) = some 100 := by kernel_rfl
theorem rt : (Tryd.prog.cutTypes.find? (·.1 == "internal/reflectlite.rtype")).map (·.2) = some 106 := by kernel_rfl
theorem oneRow : ((List.range 172).filter fun t => Tryd.prog.rowNamed t [101, 114, 114, 111, 114]) = [45] := by kernel_rfl
theorem size : Tryd.prog.types.size = 172 := by kernel_rfl
theorem table_of {W : World} {name : String} {g : Nat} {l : List Int} (hl : l.length = 15) {cs : Array Value} {fuel : Nat} {p : List MemPlace} (hg : Tryd.prog.globalNamed name = some g) (hv : W.var? Tryd.prog name = some cs)
    (hd : DataW.trod (fun _ => ()) Tryd.prog W 0 (fun _ => true) false fuel 100 cs.toList = some (.agg (l.map fun x => .lit (.int .i64 x)), p)) (k : Nat) (hk : k < 15) : W.cell? ⟨g, k, none⟩ = some (.int .i64 (l.getD k 0)) := by
  obtain ⟨xs, m, _, ex, hlen, hn, hel⟩ := DataW.trod_array Tryd.underlying100 hd
  have c3 : Tryd.prog.cellsOf 3 = 1 := by kernel_rfl
  have c15 : Tryd.prog.cellsOf 100 = 15 := by kernel_rfl
  have h0 := hel k hk
  rw [c3, Nat.mul_one] at h0
  have hx : ∃ x, xs[k]? = some x := ⟨xs[k]'(by omega), List.getElem?_eq_getElem (by omega)⟩
  obtain ⟨x, hx⟩ := hx
  rw [hx] at h0
  obtain ⟨n, e1, e2, _⟩ := DataW.trod_int Tryd.underlying3 h0
  simp only [Prod.mk.injEq, DataW.agg.injEq] at ex
  have e3 : (xs.map (·.1))[k]? = some x.1 := by rw [List.getElem?_map, hx]; rfl
  rw [← ex.1, List.getElem?_map] at e3
  have e4 : l[k]? = some (l.getD k 0) := by rw [List.getD_eq_getElem?_getD, List.getElem?_eq_getElem (by omega)]; rfl
  rw [e4] at e3
  have e5 : n = l.getD k 0 := by
    rw [e2] at e3
    simpa using e3.symm
  have e6 : cs.toList[k]? = some (.int .i64 n) := by
    have hk2 : k < cs.toList.length := by rw [hlen, c15]; exact hk
    rw [List.drop_eq_getElem_cons hk2] at e1
    simp only [List.take_succ_cons, List.take_zero, List.cons.injEq, and_true] at e1
    rw [List.getElem?_eq_getElem hk2, e1]
  have := World.var?_cell hg hv k
  rw [this, ← Array.getElem?_toList, e6, e5]
theorem gl_of_laid {W : World} (h : laidMetH Tryd.prog laid W) : Gl W := by
  have h' : laidMet Tryd.prog [("crier/packet.has", Rows.laid_crier_packet_has), ("crier/packet.flags", Rows.laid_crier_packet_flags)] W ∧ handlesMet Tryd.prog [("errors.errorType", Rows.laid_errors_errorType)] W := h
  obtain ⟨ps, ⟨g0, t0, cs0, f0, p0, q0, hg0, ht0, hv0, hd0, ⟨g1, t1, cs1, f1, p1, q1, hg1, ht1, hv1, hd1, _, _⟩, _⟩, _, _⟩ := h'.1
  obtain rfl := Option.some.inj (gh.symm.trans hg0)
  obtain rfl := Option.some.inj (gf.symm.trans hg1)
  obtain rfl := Option.some.inj (th.symm.trans ht0)
  obtain rfl := Option.some.inj (tf.symm.trans ht1)
  have hh := table_of (l := hasL) rfl hg0 hv0 hd0
  have hf := table_of (l := flagL) rfl hg1 hv1 hd1
  obtain ⟨name, u, ty, e1, e2, e3, e4, e5⟩ := h'.2 _ (List.mem_singleton.2 rfl)
  have en : name = [101, 114, 114, 111, 114] := (Option.some.inj e1).symm
  subst en
  obtain rfl := Option.some.inj (rt.symm.trans e2)
  have hm : ty ∈ (List.range 172).filter fun t => Tryd.prog.rowNamed t [101, 114, 114, 111, 114] := List.mem_filter.2 ⟨List.mem_range.2 (by rw [← size]; exact e3), e4⟩
  rw [oneRow] at hm
  obtain rfl := List.mem_singleton.1 hm
  have hy : typeHandle Tryd.prog 45 = .pointer (some ⟨4, 45, none⟩) := by kernel_rfl
  rw [hy] at e5
  exact ⟨hh, hf, by simpa using World.var?_cell et e5 0, by
    have h2 := hf 0 (by decide)
    rcases Nat.lt_or_ge 2 W.heap.size with h3 | h3
    · exact h3
    · simp [World.cell?, Array.getElem?_eq_none h3] at h2⟩
noncomputable def lw (os : Os) : World := World.doorLaid Tryd.prog 400 os
theorem door_met (os : Os) (args : Array Value) : laidMetH Tryd.prog laid ((lw os).forCall (fun _ _ => 0) ⟨#[], args, []⟩).memory :=
  laidMetH_of_parts3 (fuel := 8) (laidMet_of_run' 8 (by kernel_rfl) (by kernel_rfl)) (by kernel_rfl) (by kernel_rfl)
end Go.Proofs.YthlbcgaegaoanaaDoor.Laid

namespace Go.Proofs.YthlbcgaegaoanaaDoor.Opens
open Go Go.RowKit Go.ChangeShapes Go.WideShapes Go.Deep Go.Proofs.YthlbcgaegaoanaaDoorW.PrintWords
set_option linter.unusedVariables false
variable {P : Program}
structure Opens {α : Type} (P : Program) (d : Kd α) (G : α → Prop) (t : TypeId) : Prop where
  out : ∀ (H : Type) (enc : TypeId × Value → H) (w : World) (base : Nat) (spare : Nat → Bool) (held : Bool) (fuel : Nat) (cs : List Value) (x : DataW H × List MemPlace), DataW.trod enc P w base spare held fuel t cs = some x → ∃ y, d.K w y cs ∧ G y
theorem opens_int {t : TypeId} {k : IntKind} (ht : P.underlying t = some (.int k)) : Opens P (Kd.int k) (fun n => (Lit.int k n).wf = true) t := by
  refine ⟨?_⟩
  intro H enc w base spare held fuel cs x h
  obtain ⟨n, rfl, _, hw⟩ := DataW.trod_int ht h
  exact ⟨n, rfl, hw⟩
theorem opens_bool {t : TypeId} (ht : P.underlying t = some .bool) : Opens P Kd.bool (fun _ => True) t := by
  refine ⟨?_⟩
  intro H enc w base spare held fuel cs x h
  obtain ⟨n, rfl, _⟩ := DataW.trod_bool ht h
  exact ⟨n, rfl, trivial⟩
theorem opens_string {t : TypeId} (ht : P.underlying t = some .string) : Opens P Kd.string (fun s => s.size ≤ maxLen) t := by
  refine ⟨?_⟩
  intro H enc w base spare held fuel cs x h
  obtain ⟨n, rfl, _, hw⟩ := DataW.trod_string ht h
  exact ⟨n, rfl, hw⟩
theorem opens_slice {α : Type} {d : Kd α} {G : α → Prop} {t e : TypeId} (ht : P.underlying t = some (.slice e)) (hs : P.cellsOf e = d.sz) (hd : Opens P d G e) : Opens P (Kd.slice e d) (fun xs => xs.length ≤ maxLen ∧ ∀ x ∈ xs, G x) t := by
  refine ⟨?_⟩
  intro H enc w base spare held fuel cs x h
  rcases open_slice ht h with ⟨rfl, _⟩ | ⟨a, len, cap, m, n, D, Pl, rfl, hb, hl, hm, hmm, hx, hi⟩
  · exact ⟨[], ⟨none, 0, rfl, Nat.le_refl _, Kd.C_nil d w⟩, by simp, by simp⟩
  · have hlm : len ≤ m := by rw [hmm]; split <;> omega
    have hy : ∀ i : Nat, i < len → ∃ y cs', w.cells? base (a.add (i * d.sz)) d.sz = some cs' ∧ d.K w y cs' ∧ G y := by
      intro i hil
      obtain ⟨cs', h1, h2⟩ := hi i (by omega)
      obtain ⟨y, h3, h4⟩ := hd.out _ enc w base spare held n cs' _ h2
      rw [hs] at h1
      exact ⟨y, cs', h1, h3, h4⟩
    have hys : ∀ k : Nat, k ≤ len → ∃ ys : List α, ys.length = k ∧ ∀ i : Nat, i < k → ∃ y cs', ys[i]? = some y ∧ w.cells? base (a.add (i * d.sz)) d.sz = some cs' ∧ d.K w y cs' ∧ G y := by
      intro k
      induction k with
      | zero => intro _; exact ⟨[], rfl, fun i hi => absurd hi (Nat.not_lt_zero i)⟩
      | succ k ih =>
        intro hk
        obtain ⟨ys, hyl, hyi⟩ := ih (by omega)
        obtain ⟨y, cs', h1, h2, h3⟩ := hy k (by omega)
        refine ⟨ys ++ [y], by simp [hyl], fun i hi => ?_⟩
        by_cases hik : i < k
        · obtain ⟨y', cs'', g1, g2⟩ := hyi i hik
          exact ⟨y', cs'', by rw [List.getElem?_append_left (by omega)]; exact g1, g2⟩
        · obtain rfl : i = k := by omega
          exact ⟨y, cs', by rw [List.getElem?_append_right (by omega), hyl]; simp, h1, h2, h3⟩
    obtain ⟨ys, hyl, hyi⟩ := hys len (Nat.le_refl _)
    subst hyl
    refine ⟨ys, ⟨some a, cap, rfl, hl, rfl, ?_, fun _ => ⟨a, rfl, fun j y hyj => ?_⟩⟩, by omega, fun y hy => ?_⟩
    · unfold maxLen at hm; omega
    · have hj : j < ys.length := (List.getElem?_eq_some_iff.1 hyj).1
      obtain ⟨y', cs', g1, g2, g3, _⟩ := hyi j hj
      rw [hyj] at g1
      injection g1 with g1
      subst g1
      obtain ⟨q1, q2, q3⟩ := World.cells?_some g2
      refine ⟨cs', q2, g3, fun i u hu => ?_⟩
      have hil : i < d.sz := by rw [← q2]; exact (List.getElem?_eq_some_iff.1 hu).1
      have := q3 i hil
      rw [hu] at this
      rw [← this, Go.Deep.add_add]
    · obtain ⟨j, hj, rfl⟩ := List.getElem_of_mem hy
      obtain ⟨y, cs', g1, _, _, g4⟩ := hyi j hj
      rw [List.getElem?_eq_getElem hj] at g1
      injection g1 with g1
      rw [g1]
      exact g4
structure OpensF {α : Type} (P : Program) (d : Kd α) (G : α → Prop) (fs : List Field) (o : Nat) : Prop where
  out : ∀ (H : Type) (enc : TypeId × Value → H) (w : World) (base : Nat) (spare : Nat → Bool) (held : Bool) (fuel : Nat) (cs : List Value) (xs : List (DataW H × List MemPlace)),
    xs.length = fs.length → (∀ (i : Nat) (f : Field), fs[i]? = some f → DataW.trod enc P w base spare held fuel f.type ((cs.drop f.offset).take (P.cellsOf f.type)) = xs[i]?) → ∃ y, d.K w y ((cs.drop o).take d.sz) ∧ G y
theorem opensF_one {α : Type} {d : Kd α} {G : α → Prop} {f : Field} {o : Nat} (ho : f.offset = o) (hs : P.cellsOf f.type = d.sz) (hd : Opens P d G f.type) : OpensF P d G [f] o := by
  refine ⟨?_⟩
  intro H enc w base spare held fuel cs xs hl h
  have h0 := h 0 f rfl
  rw [List.getElem?_eq_getElem (by rw [hl]; simp), ho, hs] at h0
  exact hd.out _ enc w base spare held fuel _ _ h0
theorem opensF_cons {α β : Type} {a : Kd α} {b : Kd β} {G : α → Prop} {G' : β → Prop} {f : Field} {fs : List Field} {o : Nat} (ho : f.offset = o) (hs : P.cellsOf f.type = a.sz) (hd : Opens P a G f.type) (hr : OpensF P b G' fs (o + a.sz)) :
    OpensF P (Kd.pair a b) (fun x => G x.1 ∧ G' x.2) (f :: fs) o := by
  refine ⟨?_⟩
  intro H enc w base spare held fuel cs xs hl h
  have h0 := h 0 f rfl
  rw [List.getElem?_eq_getElem (by rw [hl]; simp), ho, hs] at h0
  obtain ⟨y, h1, h2⟩ := hd.out _ enc w base spare held fuel _ _ h0
  cases xs with
  | nil => simp at hl
  | cons x xs =>
    obtain ⟨z, h3, h4⟩ := hr.out _ enc w base spare held fuel cs xs (by simpa using hl) (fun i f' hf => by have := h (i + 1) f' (by simpa using hf); simpa using this)
    refine ⟨(y, z), ⟨_, _, ?_, h1, h3⟩, h2, h4⟩
    show (cs.drop o).take (a.sz + b.sz) = _
    rw [List.take_add, List.drop_drop]
theorem opens_struct {α β : Type} {d : Kd α} {G : α → Prop} {t : TypeId} {fs : Array Field} (f : β → α) (g : α → β) (hfg : ∀ y, f (g y) = y) (ht : P.underlying t = some (.struct fs)) (hs : P.cellsOf t = d.sz) (hd : OpensF P d G fs.toList 0) :
    Opens P (Kd.iso d f) (fun x => G (f x)) t := by
  refine ⟨?_⟩
  intro H enc w base spare held fuel cs x h
  obtain ⟨xs, n, _, _, hl, hxl, hf⟩ := DataW.trod_struct ht h
  obtain ⟨y, h1, h2⟩ := hd.out _ enc w base spare held n cs xs (by simpa using hxl) (fun i f' hf' => hf i f' (by simpa using hf'))
  rw [List.drop_zero, List.take_of_length_le (by omega)] at h1
  refine ⟨g y, ?_, ?_⟩
  · show d.K w (f (g y)) cs
    rw [hfg]; exact h1
  · show G (f (g y))
    rw [hfg]; exact h2
theorem opens_trod {α : Type} {d : Kd α} {G : α → Prop} {t : TypeId} {H : Type} {enc : TypeId × Value → H} {w : World} {base : Nat} {spare : Nat → Bool} {held : Bool} {v : Value} {x : DataW H} {p : List MemPlace} (hd : Opens P d G t) (h : DataW.Trod enc P w base spare held t v x p) : ∃ y, d.K w y v.cells.toList ∧ G y := by
  obtain ⟨fuel, hf⟩ := h
  exact hd.out _ enc w base spare held fuel _ _ hf
end Go.Proofs.YthlbcgaegaoanaaDoor.Opens

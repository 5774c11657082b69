/- Plain law: the law's two maps beside a window's numbers. No walk. -/
import Derived.Test.YtjccmlmkcjmicaaWinOp
namespace Go.Proofs.Ytjccmlmkcjmicaa.Win
open Go Go.RowKit Go.Maps Go.MapKept Go.ChangeMaps Go.Proofs.YtjccmlmkcjmicaaW.PrintWords Go.Proofs.Ytjccmlmkcjmicaa.Kinds
set_option linter.unusedVariables false

/-- two sets of numbers hold the same -/
structure Twin (D D' : DataW Unit) : Prop where
  tidy : Tidy D'
  has : ∀ x : Int, Maps.has D' (.int .i64 x) = Maps.has D (.int .i64 x)
  size : Maps.size D' = Maps.size D
theorem Twin.empty : Twin (.map []) (.map []) := ⟨tidy_empty, fun _ => rfl, rfl⟩
theorem Twin.put {D D' : DataW Unit} (h : Twin D D') (ht : Tidy D) (x : Int) (d d' : DataW Unit) : Twin (D.put (.int .i64 x) d) (D'.put (.int .i64 x) d') := by
  refine ⟨h.tidy.put (by simp [WideAt.IsKeyLit]) _, fun y => ?_, ?_⟩
  · by_cases he : y = x
    · subst he
      rw [has_put_same h.tidy.isMap (by simp [WideAt.IsKeyLit]), has_put_same ht.isMap (by simp [WideAt.IsKeyLit])]
    · rw [has_put_other (by simpa using he), has_put_other (by simpa using he)]; exact h.has y
  · rw [size_put h.tidy, size_put ht, h.has, h.size]
theorem Twin.del {D D' : DataW Unit} (h : Twin D D') (ht : Tidy D) (x : Int) : Twin (D.del (.int .i64 x)) (D'.del (.int .i64 x)) := by
  refine ⟨h.tidy.del _, fun y => ?_, ?_⟩
  · by_cases he : y = x
    · subst he; rw [has_del_same, has_del_same]
    · rw [has_del_other (by simpa using he), has_del_other (by simpa using he)]; exact h.has y
  · have h1 := size_del (k := .int .i64 x) h.tidy
    have h2 := size_del (k := .int .i64 x) ht
    rw [h.has] at h1
    have := h.size
    omega
/-- the numbers seen so far -/
def seenD (l : List Int) : DataW Unit := l.foldl (fun m x => m.put (.int .i64 x) (.lit (.int .i64 1))) (.map [])
theorem seenD_snoc (l : List Int) (x : Int) : seenD (l ++ [x]) = (seenD l).put (.int .i64 x) (.lit (.int .i64 1)) := by simp [seenD, List.foldl_append]
theorem tidy_foldl : ∀ (l : List Int) (D : DataW Unit), Tidy D → Tidy (l.foldl (fun m x => m.put (.int .i64 x) (.lit (.int .i64 1))) D)
  | [], D, h => h
  | x :: l, D, h => tidy_foldl l _ (h.put (by simp [WideAt.IsKeyLit]) _)
theorem has_foldl : ∀ (l : List Int) (D : DataW Unit), Tidy D → ∀ x : Int, Maps.has (l.foldl (fun m x => m.put (.int .i64 x) (.lit (.int .i64 1))) D) (.int .i64 x) = (Maps.has D (.int .i64 x) || decide (x ∈ l))
  | [], D, h, x => by simp
  | y :: l, D, h, x => by
    rw [List.foldl_cons, has_foldl l _ (h.put (by simp [WideAt.IsKeyLit]) _) x]
    by_cases he : x = y
    · subst he
      rw [has_put_same h.isMap (by simp [WideAt.IsKeyLit])]
      simp
    · rw [has_put_other (by simpa using he)]
      simp [he]
theorem has_seenD (l : List Int) (x : Int) : Maps.has (seenD l) (.int .i64 x) = decide (x ∈ l) := by
  unfold seenD
  rw [has_foldl l _ tidy_empty x]
  simp [Maps.has]
theorem size_foldl : ∀ (l : List Int) (D : DataW Unit), Tidy D → Maps.size (l.foldl (fun m x => m.put (.int .i64 x) (.lit (.int .i64 1))) D) ≤ Maps.size D + l.length
  | [], D, h => by simp
  | y :: l, D, h => by
    rw [List.foldl_cons, List.length_cons]
    have := size_foldl l _ (h.put (k := .int .i64 y) (by simp [WideAt.IsKeyLit]) (.lit (.int .i64 1)))
    have h2 := size_put (k := .int .i64 y) h (.lit (.int .i64 1))
    split at h2 <;> omega
theorem size_seenD (l : List Int) : Maps.size (seenD l) ≤ l.length := by
  have := size_foldl l (.map []) tidy_empty
  have h0 : Maps.size (.map [] : DataW Unit) = 0 := rfl
  unfold seenD
  omega
/-- the flight at a place: its number is in range, not seen before, not reserved -/
theorem fresh_id {s : WS} (h : WInv s) (j : Nat) (hj : j < s.flights.length) {id : Int} (he : (s.flights.getD j noFlt).id = id) :
    1 ≤ id ∧ id ≤ 65535 ∧ Maps.has (seenD ((s.flights.take j).map (·.id))) (.int .i64 id) = false ∧ Maps.has s.D (.int .i64 id) = false ∧ seenD ((s.flights.take (j + 1)).map (·.id)) = (seenD ((s.flights.take j).map (·.id))).put (.int .i64 id) (.lit (.int .i64 1)) := by
  have hg : s.flights.getD j noFlt = s.flights[j] := by rw [List.getD_eq_getElem?_getD, List.getElem?_eq_getElem hj]; rfl
  rw [hg] at he
  subst he
  have hm : s.flights[j] ∈ s.flights := List.getElem_mem _
  have hr := h.rng _ hm
  refine ⟨hr.1, hr.2, ?_, h.apart _ hm, ?_⟩
  · rw [has_seenD]
    refine decide_eq_false (fun hin => ?_)
    obtain ⟨f, hf, hfe⟩ := List.mem_map.1 hin
    obtain ⟨i, hi, rfl⟩ := List.getElem_of_mem hf
    rw [List.length_take] at hi
    rw [List.getElem_take] at hfe
    have hnd := (List.pairwise_iff_getElem.1 h.ids) i j (by rw [List.length_map]; omega) (by rw [List.length_map]; omega) (by omega)
    simp only [List.getElem_map] at hnd
    exact hnd hfe
  · rw [List.take_succ_eq_append_getElem hj, List.map_append, List.map_singleton, seenD_snoc]
end Go.Proofs.Ytjccmlmkcjmicaa.Win

/- Plain law: what a window's numbers keep. No walk. -/
import Derived.Test.YtjccmlmkcjmicaaWinImage
import Derived.Maps.Views
namespace Go.Proofs.Ytjccmlmkcjmicaa.Win
open Go Go.RowKit Go.Maps Go.MapKept Go.ChangeMaps Go.Proofs.YtjccmlmkcjmicaaW.PrintWords Go.Proofs.Ytjccmlmkcjmicaa.Kinds
set_option linter.unusedVariables false

/-- pigeons -/
theorem holes : ∀ (n : Nat) (L : List Int), (∀ i : Int, 1 ≤ i → i ≤ n → i ∈ L) → n ≤ L.length
  | 0, _, _ => Nat.zero_le _
  | n + 1, L, h => by
    have hm : ((n : Int) + 1) ∈ L := h _ (by omega) (by omega)
    have := holes n (L.erase ((n : Int) + 1)) (fun i h1 h2 => (List.mem_erase_of_ne (by omega)).2 (h i h1 (by omega)))
    rw [List.length_erase_of_mem hm] at this
    have := List.length_pos_of_mem hm
    omega
theorem placeFrom_neg : ∀ (fl : List Flt) (id : Int) (i : Nat), placeFrom fl id i < 0 ↔ id ∉ fl.map (·.id)
  | [], _, _ => by simp [placeFrom]
  | f :: r, id, i => by
    rw [placeFrom]
    by_cases h : f.id = id
    · rw [if_pos h]; simp [h]
    · rw [if_neg h, placeFrom_neg r id (i + 1)]
      simp [Ne.symm h]
theorem placeL_neg (fl : List Flt) (id : Int) : placeL fl id < 0 ↔ id ∉ fl.map (·.id) := placeFrom_neg fl id 0
/-- is a number free? -/
def isFree (fl : List Flt) (D : DataW Unit) (x : Int) : Prop := Maps.has D (.int .i64 x) = false ∧ placeL fl x < 0
theorem numL_stop (fl : List Flt) (D : DataW Unit) : ∀ (k : Nat) (l : Int), 0 ≤ l → l ≤ 65535 → isFree fl D (numL fl D k l) ∨ ∀ j : Nat, 1 ≤ j → j ≤ k → ¬ isFree fl D ((l + j - 1) % 65535 + 1)
  | 0, l, h0, h1 => .inr (fun j h1 h2 => by omega)
  | k + 1, l, h0, h1 => by
    rw [numL]
    by_cases hf : Maps.has D (.int .i64 (l % 65535 + 1)) = false ∧ placeL fl (l % 65535 + 1) < 0
    · rw [if_pos hf]; exact .inl hf
    · rw [if_neg hf]
      rcases numL_stop fl D k (l % 65535 + 1) (by omega) (by omega) with h | h
      · exact .inl h
      · refine .inr (fun j hj1 hj2 => ?_)
        by_cases hj : j = 1
        · subst hj
          rw [show (l + ((1 : Nat) : Int) - 1) % 65535 + 1 = l % 65535 + 1 by congr 1; omega]
          exact hf
        · have := h (j - 1) (by omega) (by omega)
          rw [show (l % 65535 + 1 + ((j - 1 : Nat) : Int) - 1) % 65535 = (l + (j : Int) - 1) % 65535 by omega] at this
          exact this
/-- a reserved number's place among the keys -/
def keyInt : Lit → Int
  | .int _ x => x
  | _ => 0
def keysOf : DataW Unit → List Int
  | .map es => es.map (fun p => keyInt p.1)
  | _ => []
theorem keysOf_length (D : DataW Unit) : (keysOf D).length = Maps.size D := by
  cases D <;> simp [keysOf, Maps.size]
/-- every key is an int -/
def IntKeys (D : DataW Unit) : Prop := ∀ es, D = .map es → ∀ p ∈ es, ∃ x, p.1 = .int .i64 x
theorem has_mem {D : DataW Unit} (hD : IntKeys D) {x : Int} (h : Maps.has D (.int .i64 x) = true) : x ∈ keysOf D := by
  have key : ∀ es : List (Lit × DataW Unit), D = .map es → x ∈ keysOf D := by
    rintro es rfl
    rw [Maps.has_eq, List.any_eq_true] at h
    obtain ⟨p, hp, hs⟩ := h
    obtain ⟨y, hy⟩ := hD es rfl p hp
    rw [hy] at hs
    have e : y = x := by simpa [Lit.sameKey] using hs
    exact List.mem_map.2 ⟨p, hp, by rw [hy, ← e]; rfl⟩
  cases D
  case map es => exact key es rfl
  all_goals simp [Maps.has] at h
theorem num_free (fl : List Flt) (D : DataW Unit) (hD : IntKeys D) (l : Int) (h0 : 0 ≤ l) (h1 : l ≤ 65535) (hn : Maps.size D + fl.length < 65535) : isFree fl D (numL fl D 65535 l) := by
  rcases numL_stop fl D 65535 l h0 h1 with h | h
  · exact h
  · exfalso
    have hh := holes 65535 (keysOf D ++ fl.map (·.id)) (fun i hi1 hi2 => by
      have hj : ∃ j : Nat, 1 ≤ j ∧ j ≤ 65535 ∧ (l + j - 1) % 65535 + 1 = i := by
        refine ⟨((i - 1 - l) % 65535).toNat + 1, by omega, by omega, by omega⟩
      obtain ⟨j, hj1, hj2, hj3⟩ := hj
      have hx := h j hj1 hj2
      rw [hj3] at hx
      rw [List.mem_append]
      by_cases hk : Maps.has D (.int .i64 i) = true
      · exact .inl (has_mem hD hk)
      · refine .inr (Classical.byContradiction fun hm => hx ⟨by simpa using hk, (placeL_neg fl i).2 hm⟩))
    rw [List.length_append, keysOf_length, List.length_map] at hh
    omega

/-- what holds of every window, but that it is filled -/
structure WInv0 (s : WS) : Prop where
  ok : WOk s
  tidy : Tidy s.D
  ints : IntKeys s.D
  ids : (s.flights.map (·.id)).Nodup
  rng : ∀ f ∈ s.flights, 1 ≤ f.id ∧ f.id ≤ 65535
  apart : ∀ f ∈ s.flights, Maps.has s.D (.int .i64 f.id) = false
  flw : (s.flights.length : Int) ≤ s.window
  wq : (s.waits.length : Int) ≤ s.queue
  sz : (Maps.size s.D : Int) ≤ 65535 - s.window
def Full (s : WS) : Prop := s.online = true → s.waits ≠ [] → (s.flights.length : Int) = s.window
structure WInv (s : WS) : Prop extends WInv0 s where
  full : Full s

theorem nextN_free {s : WS} (h : WInv0 s) (hl : (Maps.size s.D : Int) + s.flights.length < 65535) : isFree s.flights s.D (nextN s) :=
  num_free s.flights s.D h.ints s.last h.ok.l1 h.ok.l2 (by omega)
theorem launchS_inv {s : WS} (h : WInv0 s) (hl : (s.flights.length : Int) < s.window) (m : Msg) : WInv0 (launchS s m) := by
  have hsz := h.sz
  have hw := h.ok.w2
  have hf := nextN_free h (by omega)
  have hr := nextN_range h.ok
  refine ⟨launchS_ok h.ok (by omega) m, h.tidy, h.ints, ?_, ?_, ?_, ?_, h.wq, h.sz⟩
  · show ((s.flights ++ [(⟨nextN s, m, false⟩ : Flt)]).map (fun f => f.id)).Nodup
    rw [List.map_append, List.nodup_append]
    refine ⟨h.ids, by simp, ?_⟩
    intro a ha b hb e
    rw [List.map_singleton, List.mem_singleton] at hb
    have hb' : b = nextN s := hb
    exact (placeL_neg s.flights (nextN s)).1 hf.2 (by rw [← hb', ← e]; exact ha)
  · intro f hf'
    rcases List.mem_append.1 (show f ∈ s.flights ++ [⟨nextN s, m, false⟩] from hf') with h1 | h1
    · exact h.rng f h1
    · rw [List.mem_singleton] at h1; subst h1; exact hr
  · intro f hf'
    rcases List.mem_append.1 (show f ∈ s.flights ++ [⟨nextN s, m, false⟩] from hf') with h1 | h1
    · exact h.apart f h1
    · rw [List.mem_singleton] at h1; subst h1; exact hf.1
  · show ((s.flights ++ [(⟨nextN s, m, false⟩ : Flt)]).length : Int) ≤ s.window
    simp only [List.length_append, List.length_singleton]; omega
theorem popS_inv {s : WS} (h : WInv0 s) {m : Msg} {r : List Msg} (hw : s.waits = m :: r) : WInv0 { s with waits := r } := by
  have h1 := h.ok.wl
  have h2 := h.wq
  rw [hw, List.length_cons] at h1 h2
  exact ⟨⟨h.ok.w1, h.ok.w2, h.ok.q1, h.ok.q2, h.ok.l1, h.ok.l2, h.ok.fl, by show r.length ≤ _; omega⟩, h.tidy, h.ints, h.ids, h.rng, h.apart, h.flw, by show (r.length : Int) ≤ s.queue; omega, h.sz⟩
theorem fillF_inv : ∀ (n : Nat) (s : WS), s.waits.length = n → WInv0 s → WInv (fillF s).2 ∧ (fillF s).2.window = s.window ∧ (fillF s).2.queue = s.queue ∧ (fillF s).2.D = s.D ∧ (fillF s).2.online = s.online
  | n, s, hn, h => by
    by_cases hg : s.online = true ∧ (s.flights.length : Int) < s.window ∧ s.waits ≠ []
    · obtain ⟨ho, hl, hw⟩ := hg
      obtain ⟨m, r, hwr⟩ := List.exists_cons_of_ne_nil hw
      rw [fillF_step s m r hwr ⟨ho, hl⟩]
      have hlen : r.length < n := by rw [← hn, hwr]; simp
      have := fillF_inv r.length (launchS { s with waits := r } m) rfl (launchS_inv (popS_inv h hwr) hl m)
      exact this
    · rw [fillF_end s hg]
      refine ⟨⟨h, fun ho hw => ?_⟩, rfl, rfl, rfl, rfl⟩
      show (s.flights.length : Int) = s.window
      have := h.flw
      by_cases hl : (s.flights.length : Int) < s.window
      · exact (hg ⟨ho, hl, hw⟩).elim
      · omega
  termination_by n => n

/-- the bounds stay -/
structure Same (s s' : WS) : Prop where
  window : s'.window = s.window
  queue : s'.queue = s.queue
theorem sendF_inv {s : WS} (h : WInv s) (m : Msg) : WInv (sendF s m).s ∧ Same s (sendF s m).s ∧ (sendF s m).s.D = s.D := by
  unfold sendF
  split
  · exact ⟨h, ⟨rfl, rfl⟩, rfl⟩
  · split
    · rename_i hl
      refine ⟨⟨launchS_inv h.toWInv0 hl.2 m, fun ho hw => ?_⟩, ⟨rfl, rfl⟩, rfl⟩
      have := h.full hl.1 hw
      omega
    · rename_i hl
      split
      · rename_i hq
        have h1 := h.ok.wl
        have h2 := h.ok.q2
        refine ⟨⟨⟨⟨h.ok.w1, h.ok.w2, h.ok.q1, h.ok.q2, h.ok.l1, h.ok.l2, h.ok.fl, by show (s.waits ++ [m]).length ≤ 65536; simp only [List.length_append, List.length_singleton]; omega⟩, h.tidy, h.ints, h.ids, h.rng, h.apart, h.flw, by show ((s.waits ++ [m]).length : Int) ≤ s.queue; simp only [List.length_append, List.length_singleton]; omega, h.sz⟩, fun ho hw => ?_⟩, ⟨rfl, rfl⟩, rfl⟩
        show (s.flights.length : Int) = s.window
        have := h.flw
        by_cases hh : (s.flights.length : Int) < s.window
        · exact (hl ⟨ho, hh⟩).elim
        · omega
      · exact ⟨h, ⟨rfl, rfl⟩, rfl⟩
theorem down_inv {s : WS} (h : WInv s) : WInv { s with online := false } :=
  ⟨⟨⟨h.ok.w1, h.ok.w2, h.ok.q1, h.ok.q2, h.ok.l1, h.ok.l2, h.ok.fl, h.ok.wl⟩, h.tidy, h.ints, h.ids, h.rng, h.apart, h.flw, h.wq, h.sz⟩, fun ho => by cases ho⟩
theorem online_inv {s : WS} (h : WInv0 s) : WInv0 { s with online := true } :=
  ⟨⟨h.ok.w1, h.ok.w2, h.ok.q1, h.ok.q2, h.ok.l1, h.ok.l2, h.ok.fl, h.ok.wl⟩, h.tidy, h.ints, h.ids, h.rng, h.apart, h.flw, h.wq, h.sz⟩
theorem upF_inv {s : WS} (h : WInv s) : WInv (upF s).2 ∧ Same s (upF s).2 ∧ (upF s).2.D = s.D := by
  have := fillF_inv _ _ rfl (online_inv h.toWInv0)
  exact ⟨this.1, ⟨this.2.1, this.2.2.1⟩, this.2.2.2.1⟩
theorem erase_inv {s : WS} (h : WInv0 s) (i : Nat) : WInv0 { s with flights := s.flights.eraseIdx i } := by
  have hl : (s.flights.eraseIdx i).length ≤ s.flights.length := List.length_eraseIdx_le ..
  have hf := h.flw
  refine ⟨eraseIdx_ok h.ok i, h.tidy, h.ints, ?_, fun f hm => h.rng f (List.mem_of_mem_eraseIdx hm), fun f hm => h.apart f (List.mem_of_mem_eraseIdx hm), ?_, h.wq, h.sz⟩
  · show ((s.flights.eraseIdx i).map (fun f => f.id)).Nodup
    exact h.ids.sublist ((List.eraseIdx_sublist ..).map _)
  · show ((s.flights.eraseIdx i).length : Int) ≤ s.window
    omega
theorem set_inv {s : WS} (h : WInv s) (i : Nat) (f' : Flt) (hid : f'.id = (s.flights.getD i noFlt).id) (hi : i < s.flights.length) : WInv { s with flights := s.flights.set i f' } := by
  have hids : (s.flights.set i f').map (fun f => f.id) = s.flights.map (fun f => f.id) := by
    rw [List.map_set, hid, List.getD_eq_getElem?_getD, List.getElem?_eq_getElem hi]
    apply List.ext_getElem?
    intro j
    rw [List.getElem?_set]
    split
    · rename_i e
      subst e
      simp [hi]
    · rfl
  have hmem : ∀ f ∈ s.flights.set i f', ∃ g ∈ s.flights, f.id = g.id := by
    intro f hf
    have : f.id ∈ (s.flights.set i f').map (fun f => f.id) := List.mem_map.2 ⟨f, hf, rfl⟩
    rw [hids] at this
    obtain ⟨g, hg, he⟩ := List.mem_map.1 this
    exact ⟨g, hg, he.symm⟩
  refine ⟨⟨⟨h.ok.w1, h.ok.w2, h.ok.q1, h.ok.q2, h.ok.l1, h.ok.l2, by show (s.flights.set i f').length ≤ _; rw [List.length_set]; exact h.ok.fl, h.ok.wl⟩, h.tidy, h.ints, ?_, ?_, ?_, ?_, h.wq, h.sz⟩, fun ho hw => ?_⟩
  · show ((s.flights.set i f').map (fun f => f.id)).Nodup
    rw [hids]; exact h.ids
  · intro f hf
    obtain ⟨g, hg, he⟩ := hmem f hf
    rw [he]; exact h.rng g hg
  · intro f hf
    obtain ⟨g, hg, he⟩ := hmem f hf
    rw [he]; exact h.apart g hg
  · show ((s.flights.set i f').length : Int) ≤ s.window
    rw [List.length_set]; exact h.flw
  · show ((s.flights.set i f').length : Int) = s.window
    rw [List.length_set]; exact h.full ho hw
theorem ackF_inv {s : WS} (h : WInv s) (kind id : Int) : WInv (ackF s kind id).2 ∧ Same s (ackF s kind id).2 ∧ (ackF s kind id).2.D = s.D := by
  unfold ackF
  split
  · exact ⟨h, ⟨rfl, rfl⟩, rfl⟩
  · rename_i hq
    split
    · have := fillF_inv _ _ rfl (erase_inv h.toWInv0 (placeL s.flights id).toNat)
      exact ⟨this.1, ⟨this.2.1, this.2.2.1⟩, this.2.2.2.1⟩
    · split
      · refine ⟨?_, ⟨rfl, rfl⟩, rfl⟩
        rcases placeL_range s.flights id with h1 | ⟨h1, h2, h3⟩
        · exact (hq (.inl (by omega))).elim
        · exact set_inv h _ _ h3.symm (by omega)
      · exact ⟨h, ⟨rfl, rfl⟩, rfl⟩
theorem intKeys_put {D : DataW Unit} (hm : IsMap D) (h : IntKeys D) (x : Int) (d : DataW Unit) : IntKeys (D.put (.int .i64 x) d) := by
  obtain ⟨es, rfl⟩ := hm
  rintro es' he p hp
  have he' : DataW.insert (.int .i64 x, d) (es.filter fun p => !p.1.sameKey (.int .i64 x)) = es' := by injection he
  rw [← he'] at hp
  rcases List.mem_cons.1 ((WideShapes.insert_perm _ _).mem_iff.1 hp) with h1 | h1
  · exact ⟨x, by rw [h1]⟩
  · exact h es rfl p (List.mem_filter.1 h1).1
theorem intKeys_del {D : DataW Unit} (hm : IsMap D) (h : IntKeys D) (k : Lit) : IntKeys (D.del k) := by
  obtain ⟨es, rfl⟩ := hm
  rintro es' he p hp
  have he' : (es.filter fun p => !p.1.sameKey k) = es' := by injection he
  rw [← he'] at hp
  exact h es rfl p (List.mem_filter.1 hp).1
theorem resS_inv {s : WS} (h : WInv s) : WInv (resS s) ∧ Same s (resS s) := by
  unfold resS
  split
  · rename_i hb
    have hb' : (Maps.size s.D : Int) < 65535 - s.window := of_decide_eq_true hb
    have hf := nextN_free h.toWInv0 (by have := h.flw; omega)
    have hr := nextN_range h.ok
    refine ⟨⟨⟨⟨h.ok.w1, h.ok.w2, h.ok.q1, h.ok.q2, by show 0 ≤ nextN s; omega, hr.2, h.ok.fl, h.ok.wl⟩, h.tidy.put (by simp [WideAt.IsKeyLit]) _, intKeys_put h.tidy.isMap h.ints _ _, h.ids, h.rng, fun f hfm => ?_, h.flw, h.wq, ?_⟩, h.full⟩, ⟨rfl, rfl⟩⟩
    · have hne : f.id ≠ nextN s := fun e => (placeL_neg s.flights (nextN s)).1 hf.2 (by rw [← e]; exact List.mem_map.2 ⟨f, hfm, rfl⟩)
      show Maps.has (s.D.put (.int .i64 (nextN s)) (.agg [])) (.int .i64 f.id) = false
      rw [has_put_other (by simpa using hne)]
      exact h.apart f hfm
    · show (Maps.size (s.D.put (.int .i64 (nextN s)) (.agg [])) : Int) ≤ 65535 - s.window
      rw [size_put h.tidy, if_neg (by rw [hf.1]; simp)]
      omega
  · exact ⟨h, ⟨rfl, rfl⟩⟩
theorem free_inv {s : WS} (h : WInv s) (id : Int) : WInv { s with D := s.D.del (.int .i64 id) } := by
  refine ⟨⟨⟨h.ok.w1, h.ok.w2, h.ok.q1, h.ok.q2, h.ok.l1, h.ok.l2, h.ok.fl, h.ok.wl⟩, h.tidy.del _, intKeys_del h.tidy.isMap h.ints _, h.ids, h.rng, fun f hfm => ?_, h.flw, h.wq, ?_⟩, h.full⟩
  · show Maps.has (s.D.del (.int .i64 id)) (.int .i64 f.id) = false
    by_cases he : f.id = id
    · rw [he]; exact has_del_same
    · rw [has_del_other (by simpa using he)]; exact h.apart f hfm
  · have := size_del (k := .int .i64 id) h.tidy
    have := h.sz
    show (Maps.size (s.D.del (.int .i64 id)) : Int) ≤ 65535 - s.window
    omega
theorem newS_inv (n q : Int) : WInv (newS n q) := by
  have h := newS_ok n q
  have hes : IntKeys (newS n q).D := by
    intro es he p hp
    have he' : ([] : List (Lit × DataW Unit)) = es := by injection he
    rw [← he'] at hp
    cases hp
  have hf : ∀ f, f ∉ (newS n q).flights := fun f hf => by simp [newS] at hf
  have a1 : ((newS n q).flights.length : Int) ≤ (newS n q).window := by have := h.w1; show ((0 : Nat) : Int) ≤ (newS n q).window; omega
  have a2 : ((newS n q).waits.length : Int) ≤ (newS n q).queue := by have := h.q1; show ((0 : Nat) : Int) ≤ (newS n q).queue; omega
  have a3 : (Maps.size (newS n q).D : Int) ≤ 65535 - (newS n q).window := by have := h.w2; show ((0 : Nat) : Int) ≤ 65535 - (newS n q).window; omega
  exact ⟨⟨h, tidy_empty, hes, List.nodup_nil, fun f hm => (hf f hm).elim, fun f hm => (hf f hm).elim, a1, a2, a3⟩, fun ho => by cases ho⟩
end Go.Proofs.Ytjccmlmkcjmicaa.Win

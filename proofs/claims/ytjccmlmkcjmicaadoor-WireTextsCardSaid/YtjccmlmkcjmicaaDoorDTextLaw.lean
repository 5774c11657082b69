/- Plain: what WireTexts asks of chk: walks over code points. No program in sight. -/
import Derived.Test.YtjccmlmkcjmicaaDoorUtf
namespace Go.Proofs.YtjccmlmkcjmicaaDoor.TextLaw
open Go Go.Proofs.YtjccmlmkcjmicaaDoor.Utf
set_option linter.unusedVariables false

/-- how many bytes the code point at i takes -/
def P (g : Nat → Nat) (i : Nat) : Nat := point (g i) (g (i+1)) (g (i+2)) (g (i+3))
/-- from i to j by whole code points, none of them U+0000 -/
inductive Walk (g : Nat → Nat) : Nat → Nat → Prop
  | nil (i : Nat) : Walk g i i
  | step {i j : Nat} (h0 : g i ≠ 0) (hp : P g i ≠ 0) (h : Walk g (i + P g i) j) : Walk g i j

theorem Walk.le {g : Nat → Nat} {i j : Nat} (h : Walk g i j) : i ≤ j := by
  induction h with
  | nil => exact Nat.le_refl _
  | step _ _ _ ih => omega
theorem Walk.trans {g : Nat → Nat} {i j k : Nat} (h : Walk g i j) (h2 : Walk g j k) : Walk g i k := by
  induction h with
  | nil => exact h2
  | step h0 hp _ ih => exact .step h0 hp (ih h2)
theorem Walk.from {g : Nat → Nat} {i j k : Nat} (h : Walk g i j) (h2 : Walk g i k) (hjk : j ≤ k) : Walk g j k := by
  induction h with
  | nil => exact h2
  | @step i j h0 hp h ih =>
    cases h2 with
    | nil => exact absurd h.le (by omega)
    | step _ _ h3 => exact ih h3 hjk

def isCont (x : Nat) : Prop := 128 ≤ x ∧ x ≤ 191
/-- the bytes of a code point behind its first go on it -/
theorem point_cont {a b c d : Nat} : point a b c d = 1 ∨ (point a b c d = 2 ∧ isCont b) ∨ (point a b c d = 3 ∧ isCont b ∧ isCont c) ∨ (point a b c d = 4 ∧ isCont b ∧ isCont c ∧ isCont d) ∨ point a b c d = 0 := by
  unfold point
  simp only [cont, decide_eq_true_eq]
  split
  · exact .inl rfl
  · split
    · rename_i h; exact .inr (.inl ⟨rfl, h.2⟩)
    · split
      · rename_i h; exact .inr (.inr (.inl ⟨rfl, by unfold isCont; omega, by unfold isCont; omega⟩))
      · split
        · rename_i h; exact .inr (.inr (.inr (.inl ⟨rfl, by unfold isCont; omega, by unfold isCont; omega, by unfold isCont; omega⟩)))
        · exact .inr (.inr (.inr (.inr rfl)))
/-- what is behind a code point does not turn it -/
theorem point_same1 {a b c d b' c' d' : Nat} (h : point a b c d = 1) : point a b' c' d' = 1 := by
  unfold point at *
  by_cases h1 : a ≤ 0x7F
  · simp [h1]
  · rw [if_neg h1] at h
    split at h <;> (try omega)
    split at h <;> (try omega)
    split at h <;> omega
theorem point_same2 {a b c d c' d' : Nat} (h : point a b c d = 2) : point a b c' d' = 2 := by
  unfold point at *
  by_cases h1 : a ≤ 0x7F
  · simp [h1] at h
  · rw [if_neg h1] at h ⊢
    split at h
    · rename_i h2; rw [if_pos h2]
    · split at h <;> (try omega)
      split at h <;> omega
theorem point_same3 {a b c d d' : Nat} (h : point a b c d = 3) : point a b c d' = 3 := by
  unfold point at *
  by_cases h1 : a ≤ 0x7F
  · simp [h1] at h
  · rw [if_neg h1] at h ⊢
    split at h
    · omega
    · rename_i h2
      rw [if_neg h2]
      split at h
      · rename_i h3; rw [if_pos h3]
      · split at h <;> omega
theorem P_pos_cases (g : Nat → Nat) (i : Nat) (h : P g i ≠ 0) : 1 ≤ P g i ∧ P g i ≤ 4 ∧ ∀ k, i < k → k < i + P g i → isCont (g k) := by
  have hc := @point_cont (g i) (g (i+1)) (g (i+2)) (g (i+3))
  unfold P at *
  rcases hc with e | ⟨e, h1⟩ | ⟨e, h1, h2⟩ | ⟨e, h1, h2, h3⟩ | e
  · rw [e]; exact ⟨by omega, by omega, fun k hk hk2 => by omega⟩
  · rw [e]; refine ⟨by omega, by omega, fun k hk hk2 => ?_⟩
    obtain rfl : k = i + 1 := by omega
    exact h1
  · rw [e]; refine ⟨by omega, by omega, fun k hk hk2 => ?_⟩
    rcases (show k = i + 1 ∨ k = i + 2 by omega) with rfl | rfl
    · exact h1
    · exact h2
  · rw [e]; refine ⟨by omega, by omega, fun k hk hk2 => ?_⟩
    rcases (show k = i + 1 ∨ k = i + 2 ∨ k = i + 3 by omega) with rfl | rfl | rfl
    · exact h1
    · exact h2
    · exact h3
  · exact absurd e h
theorem P_same {g g' : Nat → Nat} {i s : Nat} (h : P g i ≠ 0) (hs : ∀ k, i ≤ k → k < i + P g i → g' (k + s) = g k) : P g' (i + s) = P g i := by
  have hc := @point_cont (g i) (g (i+1)) (g (i+2)) (g (i+3))
  unfold P at *
  have r : ∀ j, g' (i + s + j) = g' (i + j + s) := fun j => by rw [show i + s + j = i + j + s by omega]
  rw [r 1, r 2, r 3]
  rcases hc with e | ⟨e, _⟩ | ⟨e, _⟩ | ⟨e, _⟩ | e
  · rw [e] at hs ⊢; rw [hs i (by omega) (by omega)]; exact point_same1 e
  · rw [e] at hs ⊢; rw [hs i (by omega) (by omega), hs (i+1) (by omega) (by omega)]; exact point_same2 e
  · rw [e] at hs ⊢; rw [hs i (by omega) (by omega), hs (i+1) (by omega) (by omega), hs (i+2) (by omega) (by omega)]; exact point_same3 e
  · rw [e] at hs; rw [hs i (by omega) (by omega), hs (i+1) (by omega) (by omega), hs (i+2) (by omega) (by omega), hs (i+3) (by omega) (by omega)]
  · exact absurd e h
/-- a walk is carried over -/
theorem Walk.shift {g g' : Nat → Nat} {i j s : Nat} (h : Walk g i j) (hs : ∀ k, i ≤ k → k < j → g' (k + s) = g k) : Walk g' (i + s) (j + s) := by
  induction h with
  | nil => exact .nil _
  | @step i j h0 hp h ih =>
    have hle := h.le
    have hpos := (P_pos_cases g i hp).1
    have e := P_same (g' := g') (s := s) hp (fun k h1 h2 => hs k h1 (by omega))
    refine .step ?_ ?_ ?_
    · rw [hs i (Nat.le_refl _) (by omega)]; exact h0
    · rw [e]; exact hp
    · rw [e, show i + s + P g i = i + P g i + s by omega]
      exact ih (fun k h1 h2 => hs k (by omega) h2)
/-- a walk cut where a code point may begin -/
theorem Walk.cut {g : Nat → Nat} {i j c : Nat} (h : Walk g i j) (hi : i ≤ c) (hj : c ≤ j) (hc : ¬ isCont (g c)) : Walk g i c ∧ Walk g c j := by
  induction h with
  | nil => obtain rfl := Nat.le_antisymm hi hj; exact ⟨.nil _, .nil _⟩
  | @step i j h0 hp h ih =>
    rcases Nat.eq_or_lt_of_le hi with e | hlt
    · subst e; exact ⟨.nil _, .step h0 hp h⟩
    · have hge : i + P g i ≤ c := by
        rcases Nat.lt_or_ge c (i + P g i) with h1 | h1
        · exact absurd ((P_pos_cases g i hp).2.2 c hlt h1) hc
        · exact h1
      have := ih hge hj
      exact ⟨.step h0 hp this.1, this.2⟩

/-- chkL by the bytes alone -/
theorem chkL_step (s : ByteArray) (b i : Nat) : chkL s (b + 1) i = if i < s.size then (if at0 s i = 0 then ((i : Int), 14) else if P (at0 s) i = 0 then ((i : Int), 13) else chkL s b (i + P (at0 s) i)) else (0, 0) := rfl
theorem at0_beyond (s : ByteArray) (i : Nat) (h : s.size ≤ i) : at0 s i = 0 := by unfold at0; rw [dif_neg (by omega)]
/-- a code point does not run over the end -/
theorem P_within (s : ByteArray) (i : Nat) (hi : i < s.size) (hp : P (at0 s) i ≠ 0) : i + P (at0 s) i ≤ s.size := by
  have hc := P_pos_cases (at0 s) i hp
  rcases Nat.lt_or_ge s.size (i + P (at0 s) i) with h | h
  · exfalso
    have := hc.2.2 s.size hi h
    rw [at0_beyond s s.size (Nat.le_refl _)] at this
    exact absurd this.1 (by decide)
  · exact h
theorem chk_ways (s : ByteArray) : ∀ (b i : Nat), i ≤ s.size → s.size < i + b →
    (chkL s b i = (0, 0) ∧ Walk (at0 s) i s.size) ∨ ∃ p, i ≤ p ∧ p < s.size ∧ Walk (at0 s) i p ∧ ((at0 s p = 0 ∧ chkL s b i = ((p : Int), 14)) ∨ (at0 s p ≠ 0 ∧ P (at0 s) p = 0 ∧ chkL s b i = ((p : Int), 13)))
  | 0, i, hi, hb => absurd hb (by omega)
  | b + 1, i, hi, hb => by
    rw [chkL_step]
    by_cases h : i < s.size
    · rw [if_pos h]
      by_cases h0 : at0 s i = 0
      · rw [if_pos h0]; exact .inr ⟨i, Nat.le_refl _, h, .nil _, .inl ⟨h0, rfl⟩⟩
      · rw [if_neg h0]
        by_cases hp : P (at0 s) i = 0
        · rw [if_pos hp]; exact .inr ⟨i, Nat.le_refl _, h, .nil _, .inr ⟨h0, hp, rfl⟩⟩
        · rw [if_neg hp]
          have hw := P_within s i h hp
          have h1 := (P_pos_cases (at0 s) i hp).1
          rcases chk_ways s b (i + P (at0 s) i) hw (by omega) with ⟨e, w⟩ | ⟨p, hp1, hp2, w, hr⟩
          · exact .inl ⟨e, .step h0 hp w⟩
          · exact .inr ⟨p, by omega, hp2, .step h0 hp w, hr⟩
    · rw [if_neg h]
      obtain rfl : i = s.size := by omega
      exact .inl ⟨rfl, .nil _⟩
theorem chk_walk (s : ByteArray) {i j : Nat} (h : Walk (at0 s) i j) : ∀ b, j ≤ s.size → s.size < i + b → ∃ b', s.size < j + b' ∧ chkL s b i = chkL s b' j := by
  induction h with
  | nil => exact fun b _ hb => ⟨b, hb, rfl⟩
  | @step i j h0 hp h ih =>
    intro b hj hb
    have hle := h.le
    have h1 := (P_pos_cases (at0 s) i hp).1
    cases b with
    | zero => exact absurd hb (by omega)
    | succ b =>
      obtain ⟨b', hb', e⟩ := ih b hj (by omega)
      refine ⟨b', hb', ?_⟩
      rw [chkL_step, if_pos (by omega), if_neg h0, if_neg hp]
      exact e
/-- the three answers of chk at a string that is not too long -/
theorem chk_ok {s : ByteArray} (hs : s.size ≤ 65535) (h : Walk (at0 s) 0 s.size) : chk s = (0, 0) := by
  obtain ⟨b', hb', e⟩ := chk_walk s h (s.size + 1) (Nat.le_refl _) (by omega)
  unfold chk
  rw [if_neg (by omega), e]
  cases b' with
  | zero => omega
  | succ b => rw [chkL_step, if_neg (by omega)]
theorem chk_zero {s : ByteArray} (hs : s.size ≤ 65535) {p : Nat} (h : Walk (at0 s) 0 p) (hp : p < s.size) (h0 : at0 s p = 0) : chk s = ((p : Int), 14) := by
  obtain ⟨b', hb', e⟩ := chk_walk s h (s.size + 1) (by omega) (by omega)
  unfold chk
  rw [if_neg (by omega), e]
  cases b' with
  | zero => omega
  | succ b => rw [chkL_step, if_pos hp, if_pos h0]
theorem chk_utf {s : ByteArray} (hs : s.size ≤ 65535) {p : Nat} (h : Walk (at0 s) 0 p) (hp : p < s.size) (h0 : at0 s p ≠ 0) (h1 : P (at0 s) p = 0) : chk s = ((p : Int), 13) := by
  obtain ⟨b', hb', e⟩ := chk_walk s h (s.size + 1) (by omega) (by omega)
  unfold chk
  rw [if_neg (by omega), e]
  cases b' with
  | zero => omega
  | succ b => rw [chkL_step, if_pos hp, if_neg h0, if_pos h1]
theorem chk_cases {s : ByteArray} (hs : s.size ≤ 65535) : (chk s = (0, 0) ∧ Walk (at0 s) 0 s.size) ∨ ∃ p, p < s.size ∧ Walk (at0 s) 0 p ∧ ((at0 s p = 0 ∧ chk s = ((p : Int), 14)) ∨ (at0 s p ≠ 0 ∧ P (at0 s) p = 0 ∧ chk s = ((p : Int), 13))) := by
  have e : chk s = chkL s (s.size + 1) 0 := by unfold chk; rw [if_neg (by omega)]
  rw [e]
  rcases chk_ways s (s.size + 1) 0 (Nat.zero_le _) (by omega) with h | ⟨p, _, h⟩
  · exact .inl h
  · exact .inr ⟨p, h⟩
theorem walk_of_ok {s : ByteArray} (hs : s.size ≤ 65535) (h : (chk s).2 = 0) : Walk (at0 s) 0 s.size := by
  rcases chk_cases hs with ⟨_, w⟩ | ⟨p, _, _, ⟨_, e⟩ | ⟨_, _, e⟩⟩
  · exact w
  · rw [e] at h; simp at h
  · rw [e] at h; simp at h

theorem at0_append (a b : ByteArray) (k : Nat) : at0 (a ++ b) k = if k < a.size then at0 a k else at0 b (k - a.size) := by
  rw [at0_list, at0_list, at0_list]
  have e : (a ++ b).data.toList = a.data.toList ++ b.data.toList := by rw [ByteArray.data_append, Array.toList_append]
  have hl : a.size = a.data.toList.length := (Array.length_toList).symm
  rw [e, hl]
  by_cases h : k < a.data.toList.length
  · rw [if_pos h, List.getElem?_append_left h]
  · rw [if_neg h, List.getElem?_append_right (by omega)]
theorem at0_extract (s : ByteArray) (i j k : Nat) (hj : j ≤ s.size) (h : i + k < j) : at0 (s.extract i j) k = at0 s (i + k) := by
  rw [at0_list, at0_list, Lib.extract_data, List.getElem?_take, List.getElem?_drop]
  rw [if_pos (by omega)]
theorem size_append (a b : ByteArray) : (a ++ b).size = a.size + b.size := by simp
theorem size_extract (s : ByteArray) (i j : Nat) (hi : i ≤ j) (hj : j ≤ s.size) : (s.extract i j).size = j - i := by
  rw [ByteArray.size_extract]; omega

/-- texts joined -/
theorem join_ok {a b : ByteArray} (hs : a.size + b.size ≤ 65535) (ha : (chk a).2 = 0) : (chk b).2 = 0 ↔ (chk (a ++ b)).2 = 0 := by
  have wa := walk_of_ok (by omega) ha
  have wa2 : Walk (at0 (a ++ b)) 0 a.size := by
    have := wa.shift (g' := at0 (a ++ b)) (s := 0) (fun k _ hk => by rw [Nat.add_zero, at0_append, if_pos hk])
    simpa using this
  have hsz := size_append a b
  constructor
  · intro hb
    have wb := walk_of_ok (by omega) hb
    have wb2 := wb.shift (g' := at0 (a ++ b)) (s := a.size) (fun k _ hk => by rw [at0_append, if_neg (by omega)]; congr 1; omega)
    rw [Nat.zero_add] at wb2
    rw [chk_ok (by omega) (wa2.trans (by rw [hsz, Nat.add_comm a.size]; exact wb2))]
  · intro hab
    have wab := walk_of_ok (by omega) hab
    have w := wa2.from wab (by omega)
    have hb : Walk (at0 b) 0 b.size := by
      obtain ⟨m, hm⟩ : ∃ m, m = (a ++ b).size := ⟨_, rfl⟩
      rw [← hm] at w
      have key : ∀ i j, Walk (at0 (a ++ b)) i j → ∀ i' j', i = i' + a.size → j = j' + a.size → Walk (at0 b) i' j' := by
        intro i j h
        induction h with
        | nil i => intro i' j' h1 h2; obtain rfl : i' = j' := by omega
                   exact .nil _
        | @step i j h0 hp h ih =>
          intro i' j' h1 h2
          have e : ∀ k, at0 b (i' + k) = at0 (a ++ b) (i + k) := fun k => by rw [at0_append, if_neg (by omega)]; congr 1; omega
          have e0 : at0 b i' = at0 (a ++ b) i := e 0
          have eP : P (at0 b) i' = P (at0 (a ++ b)) i := by unfold P; rw [e0, e 1, e 2, e 3]
          refine .step (by rw [e0]; exact h0) (by rw [eP]; exact hp) ?_
          rw [eP]
          exact ih _ _ (by omega) h2
      exact key _ _ w 0 b.size (by omega) (by omega)
    rw [chk_ok (by omega) hb]
/-- a text cut where a code point may begin -/
theorem cut_ok {a : ByteArray} (hs : a.size ≤ 65535) (ha : (chk a).2 = 0) (c : Nat) (hc : c < a.size) (hn : at0 a c < 0x80 ∨ 0xC0 ≤ at0 a c) : (chk (a.extract 0 c)).2 = 0 ∧ (chk (a.extract c a.size)).2 = 0 := by
  have w := walk_of_ok hs ha
  obtain ⟨w1, w2⟩ := w.cut (c := c) (Nat.zero_le _) (by omega) (by unfold isCont; omega)
  have z1 := size_extract a 0 c (Nat.zero_le _) (by omega)
  have z2 := size_extract a c a.size (by omega) (Nat.le_refl _)
  constructor
  · have := w1.shift (g' := at0 (a.extract 0 c)) (s := 0) (fun k _ hk => by rw [Nat.add_zero, at0_extract a 0 c k (by omega) (by omega), Nat.zero_add])
    rw [chk_ok (by omega) (by rw [z1]; simpa using this)]
  · have key : ∀ i j, Walk (at0 a) i j → j ≤ a.size → ∀ i' j', i = i' + c → j = j' + c → Walk (at0 (a.extract c a.size)) i' j' := by
      intro i j h
      induction h with
      | nil i => intro _ i' j' h1 h2; obtain rfl : i' = j' := by omega
                 exact .nil _
      | @step i j h0 hp h ih =>
        intro hj i' j' h1 h2
        have e : ∀ k, at0 (a.extract c a.size) (i' + k) = at0 a (i + k) := fun k => by
          by_cases hk : i + k < a.size
          · rw [at0_extract a c a.size _ (Nat.le_refl _) (by omega)]; congr 1; omega
          · rw [at0_beyond _ _ (by rw [z2]; omega), at0_beyond _ _ (by omega)]
        have e0 : at0 (a.extract c a.size) i' = at0 a i := e 0
        have eP : P (at0 (a.extract c a.size)) i' = P (at0 a) i := by unfold P; rw [e0, e 1, e 2, e 3]
        refine .step (by rw [e0]; exact h0) (by rw [eP]; exact hp) ?_
        rw [eP]
        exact ih hj _ _ (by omega) h2
    have := key _ _ w2 (Nat.le_refl _) 0 (a.size - c) (by omega) (by omega)
    rw [chk_ok (by omega) (by rw [z2]; exact this)]
/-- a refusal at a place -/
theorem refused {s : ByteArray} (hs : s.size ≤ 65535) (h : (chk s).2 ≠ 0) : ∃ p : Nat, p < s.size ∧ ((chk s = ((p : Int), 14) ∧ at0 s p = 0) ∨ (chk s = ((p : Int), 13) ∧ at0 s p ≠ 0)) ∧ (chk (s.extract 0 p)).2 = 0 ∧
    ∀ t : ByteArray, t.size ≤ 5000 → s.size ≤ 60000 → p + 4 ≤ s.size → chk (s.extract 0 (p + 4) ++ t) = chk s := by
  rcases chk_cases hs with ⟨e, _⟩ | ⟨p, hp, w, hr⟩
  · rw [e] at h; exact absurd rfl h
  · refine ⟨p, hp, ?_, ?_, ?_⟩
    · rcases hr with ⟨h0, e⟩ | ⟨h0, _, e⟩
      · exact .inl ⟨e, h0⟩
      · exact .inr ⟨e, h0⟩
    · have z1 := size_extract s 0 p (Nat.zero_le _) (by omega)
      have := w.shift (g' := at0 (s.extract 0 p)) (s := 0) (fun k _ hk => by rw [Nat.add_zero, at0_extract s 0 p k (by omega) (by omega), Nat.zero_add])
      rw [chk_ok (by omega) (by rw [z1]; simpa using this)]
    · intro t ht hss hp4
      have z1 := size_extract s 0 (p + 4) (Nat.zero_le _) hp4
      have z2 : (s.extract 0 (p + 4) ++ t).size = p + 4 + t.size := by rw [size_append, z1]; omega
      have e : ∀ k, k < p + 4 → at0 (s.extract 0 (p + 4) ++ t) k = at0 s k := fun k hk => by
        rw [at0_append, z1, if_pos (by omega), at0_extract s 0 (p + 4) k hp4 (by omega), Nat.zero_add]
      have w2 := w.shift (g' := at0 (s.extract 0 (p + 4) ++ t)) (s := 0) (fun k _ hk => by rw [Nat.add_zero]; exact e k (by omega))
      simp only [Nat.add_zero] at w2
      have eP : P (at0 (s.extract 0 (p + 4) ++ t)) p = P (at0 s) p := by unfold P; rw [e p (by omega), e (p+1) (by omega), e (p+2) (by omega), e (p+3) (by omega)]
      rcases hr with ⟨h0, e1⟩ | ⟨h0, h1, e1⟩
      · rw [e1]; exact chk_zero (by omega) w2 (by omega) (by rw [e p (by omega)]; exact h0)
      · rw [e1]; exact chk_utf (by omega) w2 (by omega) (by rw [e p (by omega)]; exact h0) (by rw [eP]; exact h1)
end Go.Proofs.YtjccmlmkcjmicaaDoor.TextLaw

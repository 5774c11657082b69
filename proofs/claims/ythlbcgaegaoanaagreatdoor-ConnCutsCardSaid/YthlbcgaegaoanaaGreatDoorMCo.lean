/- a connection in plain Lean: no cut shows, the order of what is told. No statement of the program. A connection in memory: New, Push, Over, Tick. No statement of the program. A connection's Tick. No statement of the program. A connection's Took. No statement of the program. A connection's judge: what a packet is there. No statement of the program. A connection's Next. No statement of the program. -/
import Derived.Test.YthlbcgaegaoanaaGreatDoorMDec
import Derived.Great.Walk
import Derived.Great.BuildSlice
import Derived.Test.YthlbcgaegaoanaaGreatDoorMErr
namespace Go.Proofs.YthlbcgaegaoanaaGreatDoor.Cr
open Go Go.RowKit Go.Proofs.YthlbcgaegaoanaaGreatDoorW.PrintWords Go.Proofs.YthlbcgaegaoanaaGreatDoorW.PrintLast Go.Proofs.YthlbcgaegaoanaaGreatDoorW.PrintMore Go.Proofs.YthlbcgaegaoanaaGreatDoor.Kinds Go.Proofs.YthlbcgaegaoanaaGreatDoor.Utf Go.Proofs.YthlbcgaegaoanaaGreatDoor.Chk Go.Proofs.YthlbcgaegaoanaaGreatDoor.Rdr
set_option linter.unusedVariables false
set_option linter.unusedSimpArgs false
structure InV where
  what : Int
  p : Pkt
  code : Int
  err : Int
def noIn : InV := ⟨0, noPkt, 0, 0⟩
structure CoS where
  st : Int
  fr : FrS
  keep : Int
  silence : Int
def CoS.new : CoS := ⟨0, FrS.new, 0, 0⟩
def CoS.push (s : CoS) (l : List Int) : CoS := if s.st = 2 then s else ⟨s.st, s.fr.put l, s.keep, s.silence⟩
def judgeP (st : Int) (p : Pkt) : InV :=
  if p.kind = 1 then (if st = 1 then ⟨3, noPkt, 0, 141⟩ else if p.level = 4 then ⟨1, p, 0, 0⟩ else ⟨2, noPkt, 1, 0⟩)
  else if st = 0 then ⟨3, noPkt, 0, 140⟩
  else if p.kind = 2 ∨ p.kind = 9 ∨ p.kind = 11 ∨ p.kind = 13 then ⟨3, noPkt, 0, 142⟩ else ⟨1, p, 0, 0⟩
def tookP (s : CoS) (i : InV) : CoS :=
  if s.st = 2 then s
  else if i.what = 1 then (if i.p.kind = 1 then ⟨1, s.fr, min (max i.p.keep 0) 65535, 0⟩ else if i.p.kind = 14 then ⟨2, s.fr, s.keep, 0⟩ else ⟨s.st, s.fr, s.keep, 0⟩)
  else ⟨2, s.fr, s.keep, s.silence⟩
structure CA where
  i : InV
  ok : Bool
def nextA (st : Int) (a : FA) : CA :=
  match a.f with
  | some e => ⟨⟨3, noPkt, 0, e.2⟩, true⟩
  | none => if a.ok then ⟨judgeP st a.p, true⟩ else ⟨noIn, false⟩
def CoS.next (most : Int) (s : CoS) : CA × CoS :=
  if s.st = 2 then (⟨noIn, false⟩, s)
  else if (nextA s.st (s.fr.next most).1).ok then (nextA s.st (s.fr.next most).1, tookP ⟨s.st, (s.fr.next most).2, s.keep, s.silence⟩ (nextA s.st (s.fr.next most).1).i)
  else (nextA s.st (s.fr.next most).1, ⟨s.st, (s.fr.next most).2, s.keep, s.silence⟩)
theorem tookP_fr (s : CoS) (i : InV) : (tookP s i).fr = s.fr := by unfold tookP; repeat (first | rfl | split)
theorem CoS.next_over {s : CoS} (most : Int) (h : s.st = 2) : s.next most = (⟨noIn, false⟩, s) := by unfold CoS.next; rw [if_pos h]
theorem CoS.next_fr {s : CoS} (most : Int) (h : s.st ≠ 2) : (s.next most).2.fr = (s.fr.next most).2 ∧ (s.next most).1 = nextA s.st (s.fr.next most).1 := by
  unfold CoS.next
  rw [if_neg h]
  split
  · exact ⟨by rw [tookP_fr], by first | rfl | trivial⟩
  · exact ⟨rfl, by first | rfl | trivial⟩
theorem CoS.next_ok {s : CoS} (most : Int) (h : s.fr.Ok) : (s.next most).2.fr.Ok := by
  by_cases h2 : s.st = 2
  · rw [CoS.next_over most h2]; exact h
  · rw [(CoS.next_fr most h2).1]; exact h.next most
theorem CoS.next_push {s : CoS} (most : Int) (h : s.fr.Ok) (hk : (s.next most).1.ok = true) (m : List Int) :
    ((s.push m).next most).1 = (s.next most).1 ∧ (((s.push m).next most).2 = (s.next most).2.push m ∨ ((s.push m).next most).2.st = 2 ∧ (s.next most).2.st = 2) := by
  by_cases h2 : s.st = 2
  · rw [CoS.next_over most h2] at hk; simp at hk
  · have e1 : s.push m = ⟨s.st, s.fr.put m, s.keep, s.silence⟩ := by unfold CoS.push; rw [if_neg h2]
    have hf := CoS.next_fr most h2
    rw [hf.2] at hk
    have hok : ∀ a : FA, (nextA s.st a).ok = true → a.ok = true ∧ a.f = none ∨ ∃ e, a.f = some e := by
      intro a ha
      unfold nextA at ha
      cases ef : a.f with
      | some e => exact .inr ⟨e, rfl⟩
      | none => cases ek : a.ok <;> simp_all
    rcases hok _ hk with ⟨ha, hn⟩ | ⟨e, he⟩
    · have := FrS.next_ok h most ha m
      have hp := this.2.2.2.2.2
      have e2 : (s.push m).next most = (nextA s.st (s.fr.next most).1, tookP ⟨s.st, (s.fr.next most).2.put m, s.keep, s.silence⟩ (nextA s.st (s.fr.next most).1).i) := by
        rw [e1]; unfold CoS.next; simp only [if_neg h2, hp, hk, if_true]
      have e3 : s.next most = (nextA s.st (s.fr.next most).1, tookP ⟨s.st, (s.fr.next most).2, s.keep, s.silence⟩ (nextA s.st (s.fr.next most).1).i) := by
        unfold CoS.next; simp only [if_neg h2, hk, if_true]
      rw [e2, e3]
      refine ⟨rfl, ?_⟩
      generalize (nextA s.st (s.fr.next most).1).i = i
      unfold tookP CoS.push
      simp only [if_neg h2]
      by_cases w1 : i.what = 1
      · simp only [if_pos w1]
        by_cases k1 : i.p.kind = 1
        · simp only [if_pos k1]; left; simp
        · simp only [if_neg k1]
          by_cases k2 : i.p.kind = 14
          · simp only [if_pos k2]; right; simp
          · simp only [if_neg k2]; left; simp [h2]
      · simp only [if_neg w1]; right; simp
    · cases ek : (s.fr.next most).1.ok with
      | true => have := (FrS.next_ok h most ek m).1; rw [he] at this; simp at this
      | false =>
        have hb := FrS.next_bad h most ek he m
        have e2 : (s.push m).next most = (nextA s.st (s.fr.next most).1, tookP ⟨s.st, (s.fr.next most).2, s.keep, s.silence⟩ (nextA s.st (s.fr.next most).1).i) := by
          rw [e1]; unfold CoS.next; simp only [if_neg h2, hb.2.2.1, hk, if_true]
        have e3 : s.next most = (nextA s.st (s.fr.next most).1, tookP ⟨s.st, (s.fr.next most).2, s.keep, s.silence⟩ (nextA s.st (s.fr.next most).1).i) := by
          unfold CoS.next; simp only [if_neg h2, hk, if_true]
        rw [e2, e3]
        refine ⟨rfl, .inr ?_⟩
        have : (tookP ⟨s.st, (s.fr.next most).2, s.keep, s.silence⟩ (nextA s.st (s.fr.next most).1).i).st = 2 := by
          unfold nextA; rw [he]; unfold tookP; simp [h2]
        exact ⟨this, this⟩
theorem CoS.next_stay {s : CoS} (most : Int) (h : s.fr.Ok) (hk : (s.next most).1.ok = false) : s.next most = (⟨noIn, false⟩, s) := by
  by_cases h2 : s.st = 2
  · exact CoS.next_over most h2
  · have hf := CoS.next_fr most h2
    rw [hf.2] at hk
    have ha : (s.fr.next most).1.ok = false ∧ (s.fr.next most).1.f = none := by
      unfold nextA at hk
      cases ef : (s.fr.next most).1.f with
      | some e => rw [ef] at hk; simp at hk
      | none =>
        rw [ef] at hk
        cases ek : (s.fr.next most).1.ok with
        | true => simp [ek] at hk
        | false => exact ⟨rfl, rfl⟩
    have hn := FrS.next_need h most ha.1 ha.2
    unfold CoS.next
    rw [if_neg h2, hn.1]
    simp [nextA]
theorem CoS.next_less {s : CoS} (most : Int) (h : s.fr.Ok) (hk : (s.next most).1.ok = true) : (s.next most).2.st = 2 ∨ (s.next most).2.fr.b.length + 2 ≤ s.fr.b.length := by
  by_cases h2 : s.st = 2
  · rw [CoS.next_over most h2] at hk; simp at hk
  · have hf := CoS.next_fr most h2
    cases ek : (s.fr.next most).1.ok with
    | true => right; rw [hf.1]; exact (FrS.next_ok h most ek []).2.2.2.2.1
    | false =>
      cases ef : (s.fr.next most).1.f with
      | none =>
        have hn := FrS.next_need h most ek ef
        rw [hf.2, hn.1] at hk
        simp [nextA] at hk
      | some e =>
        left
        have hk2 := hk
        rw [hf.2] at hk2
        unfold CoS.next
        rw [if_neg h2, if_pos hk2]
        unfold nextA; rw [ef]; unfold tookP; simp [h2]
def CoS.left (s : CoS) : Nat := if s.st = 2 then 0 else s.fr.b.length + 1
theorem CoS.left_next {s : CoS} (most : Int) (h : s.fr.Ok) (hk : (s.next most).1.ok = true) : (s.next most).2.left < s.left := by
  have h2 : s.st ≠ 2 := by intro e; rw [CoS.next_over most e] at hk; simp at hk
  have := CoS.next_less most h hk
  unfold CoS.left
  rw [if_neg h2]
  rcases this with e | e
  · rw [if_pos e]; omega
  · split <;> omega
def CoS.drain (most : Int) : Nat → CoS → List InV × CoS
  | 0, s => ([], s)
  | k + 1, s => if (s.next most).1.ok then ((s.next most).1.i :: (CoS.drain most k (s.next most).2).1, (CoS.drain most k (s.next most).2).2) else ([], s)
theorem CoS.drain_fuel (most : Int) : ∀ k j (s : CoS), s.fr.Ok → s.left ≤ k → s.left ≤ j → s.drain most k = s.drain most j := by
  intro k
  induction k with
  | zero =>
    intro j s h h1 h2
    have hn : (s.next most).1.ok = false := by
      cases e : (s.next most).1.ok with
      | false => rfl
      | true => have := CoS.left_next most h e; omega
    cases j with
    | zero => rfl
    | succ j => simp [CoS.drain, hn]
  | succ k ih =>
    intro j s h h1 h2
    cases e : (s.next most).1.ok with
    | false =>
      cases j with
      | zero => simp [CoS.drain, e]
      | succ j => simp [CoS.drain, e]
    | true =>
      have hs := CoS.left_next most h e
      cases j with
      | zero => omega
      | succ j =>
        simp only [CoS.drain, e, if_true]
        rw [ih j _ (CoS.next_ok most h) (by omega) (by omega)]
def CoS.all (most : Int) (s : CoS) : List InV × CoS := s.drain most s.left
theorem CoS.all_ok {most : Int} {s : CoS} (h : s.fr.Ok) (hk : (s.next most).1.ok = true) : s.all most = ((s.next most).1.i :: ((s.next most).2.all most).1, ((s.next most).2.all most).2) := by
  have hs := CoS.left_next most h hk
  obtain ⟨k, e⟩ : ∃ k, s.left = k + 1 := ⟨s.left - 1, by omega⟩
  unfold CoS.all
  rw [e]
  simp only [CoS.drain, hk, if_true]
  rw [CoS.drain_fuel most k _ _ (CoS.next_ok most h) (by omega) (Nat.le_refl _)]
theorem CoS.all_no {most : Int} {s : CoS} (hk : (s.next most).1.ok = false) : s.all most = ([], s) := by
  unfold CoS.all
  cases s.left with
  | zero => rfl
  | succ k => simp [CoS.drain, hk]
theorem CoS.all_over {most : Int} {s : CoS} (h2 : s.st = 2) : s.all most = ([], s) := CoS.all_no (by rw [CoS.next_over most h2])
theorem CoS.push_ok {s : CoS} (h : s.fr.Ok) {m : List Int} (hm : Bytes m) : (s.push m).fr.Ok := by
  unfold CoS.push
  split
  · exact h
  · exact h.put hm
def CoS.tells (most : Int) (s : CoS) : List InV × Bool := ((s.all most).1, (s.all most).2.st == 2)
theorem CoS.tells_push {most : Int} {s : CoS} (h : s.fr.Ok) {m : List Int} (hm : Bytes m) (hk : (s.next most).1.ok = true) : (s.push m).tells most = ((s.next most).1.i :: (((s.next most).2.push m).tells most).1, (((s.next most).2.push m).tells most).2) := by
  have hp := CoS.next_push most h hk m
  have h2 : ((s.push m).next most).1.ok = true := by rw [hp.1]; exact hk
  unfold CoS.tells
  rw [CoS.all_ok (CoS.push_ok h hm) h2, hp.1]
  rcases hp.2 with e | ⟨e1, e2⟩
  · rw [e]
  · have e3 : (s.next most).2.push m = (s.next most).2 := by unfold CoS.push; rw [if_pos e2]
    rw [e3, CoS.all_over e1, CoS.all_over e2, e1, e2]
theorem CoS.push_push (s : CoS) (l m : List Int) : (s.push l).push m = s.push (l ++ m) := by
  unfold CoS.push
  by_cases h : s.st = 2
  · simp [h]
  · simp [h, FrS.put_put]
theorem CoS.tells_all {most : Int} : ∀ (k : Nat) {s : CoS}, s.left ≤ k → s.fr.Ok → ∀ {m : List Int}, Bytes m → (s.push m).tells most = ((s.all most).1 ++ ((((s.all most).2).push m).tells most).1, ((((s.all most).2).push m).tells most).2) := by
  intro k
  induction k with
  | zero =>
    intro s hk h m hm
    have hn : (s.next most).1.ok = false := by
      cases e : (s.next most).1.ok with
      | false => rfl
      | true => have := CoS.left_next most h e; omega
    rw [CoS.all_no hn]; rfl
  | succ k ih =>
    intro s hk h m hm
    cases e : (s.next most).1.ok with
    | false => rw [CoS.all_no e]; rfl
    | true =>
      have hs := CoS.left_next most h e
      rw [CoS.tells_push h hm e, ih (by omega) (CoS.next_ok most h) hm, CoS.all_ok h e]
      rfl
theorem CoS.all_Ok {most : Int} : ∀ (k : Nat) {s : CoS}, s.left ≤ k → s.fr.Ok → (s.all most).2.fr.Ok := by
  intro k
  induction k with
  | zero =>
    intro s hk h
    have hn : (s.next most).1.ok = false := by
      cases e : (s.next most).1.ok with
      | false => rfl
      | true => have := CoS.left_next most h e; omega
    rw [CoS.all_no hn]; exact h
  | succ k ih =>
    intro s hk h
    cases e : (s.next most).1.ok with
    | false => rw [CoS.all_no e]; exact h
    | true =>
      have hs := CoS.left_next most h e
      rw [CoS.all_ok h e]
      exact ih (by omega) (CoS.next_ok most h)
/-! the order of what is told -/
def OrdAt (i : Nat) (last : Bool) (over : Bool) (x : InV) : Prop :=
  1 ≤ x.what ∧ x.what ≤ 3 ∧ ((x.what ≠ 1 ∨ x.p.kind = 14) → last = true ∧ over = true) ∧ (x.what = 1 → (i = 0 ↔ x.p.kind = 1)) ∧ (x.what = 2 → i = 0 ∧ x.code = 1) ∧ x.p.kind ≠ 2 ∧ x.p.kind ≠ 9 ∧ x.p.kind ≠ 11 ∧ x.p.kind ≠ 13
theorem judgeP_form (st : Int) (p : Pkt) (h : st = 0 ∨ st = 1) : 1 ≤ (judgeP st p).what ∧ (judgeP st p).what ≤ 3 ∧ ((judgeP st p).what = 1 → (st = 0 ↔ (judgeP st p).p.kind = 1)) ∧ ((judgeP st p).what = 2 → st = 0 ∧ (judgeP st p).code = 1) ∧ ((judgeP st p).what ≠ 1 → (judgeP st p).p = noPkt) ∧ (judgeP st p).p.kind ≠ 2 ∧ (judgeP st p).p.kind ≠ 9 ∧ (judgeP st p).p.kind ≠ 11 ∧ (judgeP st p).p.kind ≠ 13 := by
  have n0 : noPkt.kind = 0 := rfl
  unfold judgeP
  by_cases k1 : p.kind = 1
  · rw [if_pos k1]
    by_cases s1 : st = 1
    · rw [if_pos s1]; simp [n0]
    · rw [if_neg s1]
      by_cases l4 : p.level = 4
      · rw [if_pos l4]; simp [k1]; omega
      · rw [if_neg l4]; simp [n0]; omega
  · rw [if_neg k1]
    by_cases s0 : st = 0
    · rw [if_pos s0]; simp [n0]
    · rw [if_neg s0]
      by_cases kk : p.kind = 2 ∨ p.kind = 9 ∨ p.kind = 11 ∨ p.kind = 13
      · rw [if_pos kk]; simp [n0]
      · rw [if_neg kk]; simp [k1, s0]; omega
theorem nextA_form (st : Int) (a : FA) (h : st = 0 ∨ st = 1) (hk : (nextA st a).ok = true) : 1 ≤ (nextA st a).i.what ∧ (nextA st a).i.what ≤ 3 ∧ ((nextA st a).i.what = 1 → (st = 0 ↔ (nextA st a).i.p.kind = 1)) ∧ ((nextA st a).i.what = 2 → st = 0 ∧ (nextA st a).i.code = 1) ∧ ((nextA st a).i.what ≠ 1 → (nextA st a).i.p = noPkt) ∧ (nextA st a).i.p.kind ≠ 2 ∧ (nextA st a).i.p.kind ≠ 9 ∧ (nextA st a).i.p.kind ≠ 11 ∧ (nextA st a).i.p.kind ≠ 13 := by
  have n0 : noPkt.kind = 0 := rfl
  unfold nextA at hk ⊢
  cases ef : a.f with
  | some e => simp [n0]
  | none =>
    rw [ef] at hk
    cases ek : a.ok with
    | false => simp [ek] at hk
    | true => simpa [ek] using judgeP_form st a.p h
theorem tookP_st (s : CoS) (i : InV) (h : s.st = 0 ∨ s.st = 1) (h1 : i.what = 1 → (s.st = 0 ↔ i.p.kind = 1)) (hn : i.what ≠ 1 → i.p = noPkt) :
    ((i.what ≠ 1 ∨ i.p.kind = 14) → (tookP s i).st = 2) ∧ (¬ (i.what ≠ 1 ∨ i.p.kind = 14) → (tookP s i).st = 1) := by
  have n0 : noPkt.kind = 0 := rfl
  unfold tookP
  rw [if_neg (by omega)]
  by_cases w : i.what = 1
  · rw [if_pos w]
    have := h1 w
    by_cases k1 : i.p.kind = 1
    · rw [if_pos k1]; simp [w, k1]
    · rw [if_neg k1]
      by_cases k2 : i.p.kind = 14
      · rw [if_pos k2]; simp [w, k2]
      · rw [if_neg k2]; simp [w, k2]; omega
  · rw [if_neg w]; simp [w]
theorem CoS.order {most : Int} : ∀ (k : Nat) (j : Nat) {s : CoS}, s.left ≤ k → s.fr.Ok → (s.st = 2 ∨ s.st = (if j = 0 then 0 else 1)) → ∀ (i : Nat) (x : InV), ((s.all most).1)[i]? = some x → OrdAt (j + i) (i + 1 == (s.all most).1.length) ((s.all most).2.st == 2) x := by
  intro k
  induction k with
  | zero =>
    intro j s hk h hst i x hx
    have hn : (s.next most).1.ok = false := by
      cases e : (s.next most).1.ok with
      | false => rfl
      | true => have := CoS.left_next most h e; omega
    rw [CoS.all_no hn] at hx; simp at hx
  | succ k ih =>
    intro j s hk h hst i x hx
    cases e : (s.next most).1.ok with
    | false => rw [CoS.all_no e] at hx; simp at hx
    | true =>
      have hs := CoS.left_next most h e
      have h2 : s.st ≠ 2 := by intro e2; rw [CoS.next_over most e2] at e; simp at e
      have hst' : s.st = (if j = 0 then 0 else 1) := hst.resolve_left h2
      have h01 : s.st = 0 ∨ s.st = 1 := by rw [hst']; split <;> omega
      have hj : s.st = 0 ↔ j = 0 := by rw [hst']; split <;> omega
      have hf := CoS.next_fr most h2
      have hk2 := e
      rw [hf.2] at hk2
      have hA := nextA_form s.st (s.fr.next most).1 h01 hk2
      have hT := tookP_st ⟨s.st, (s.fr.next most).2, s.keep, s.silence⟩ (nextA s.st (s.fr.next most).1).i h01 hA.2.2.1 hA.2.2.2.2.1
      have e3 : s.next most = (nextA s.st (s.fr.next most).1, tookP ⟨s.st, (s.fr.next most).2, s.keep, s.silence⟩ (nextA s.st (s.fr.next most).1).i) := by
        unfold CoS.next; simp only [if_neg h2, hk2, if_true]
      rw [CoS.all_ok h e] at hx ⊢
      cases i with
      | zero =>
        have hx' : x = (s.next most).1.i := by simpa using hx.symm
        subst hx'
        rw [hf.2]
        refine ⟨hA.1, hA.2.1, fun hl => ?_, fun hw => by rw [← hA.2.2.1 hw]; omega, fun hw => ⟨by have := (hA.2.2.2.1 hw).1; omega, (hA.2.2.2.1 hw).2⟩, hA.2.2.2.2.2⟩
        have h3 := hT.1 hl
        rw [e3]
        simp only []
        rw [CoS.all_over h3]
        simp [h3]
      | succ i =>
        have hx' : ((s.next most).2.all most).1[i]? = some x := by simpa using hx
        have hn2 : (s.next most).2.st = 2 ∨ (s.next most).2.st = 1 := by
          rw [e3]
          by_cases hl : (nextA s.st (s.fr.next most).1).i.what ≠ 1 ∨ (nextA s.st (s.fr.next most).1).i.p.kind = 14
          · exact .inl (hT.1 hl)
          · exact .inr (hT.2 hl)
        have := ih (j + 1) (s := (s.next most).2) (by omega) (CoS.next_ok most h) (by simpa using hn2) i x hx'
        rw [show j + 1 + i = j + (i + 1) by omega] at this
        simpa using this
end Go.Proofs.YthlbcgaegaoanaaGreatDoor.Cr

namespace Go.Proofs.YthlbcgaegaoanaaGreatDoor.Cr
open Go Go.RowKit Go.Proofs.YthlbcgaegaoanaaGreatDoorW.PrintWords Go.Proofs.YthlbcgaegaoanaaGreatDoorW.PrintLast Go.Proofs.YthlbcgaegaoanaaGreatDoorW.PrintMore Go.Proofs.YthlbcgaegaoanaaGreatDoor.Kinds Go.Proofs.YthlbcgaegaoanaaGreatDoor.Utf Go.Proofs.YthlbcgaegaoanaaGreatDoor.Chk Go.Proofs.YthlbcgaegaoanaaGreatDoor.Rdr
set_option linter.unusedVariables false
set_option linter.unusedSimpArgs false
structure CoIs (w : World) (base C F : Nat) (most pat : Int) (s : CoS) : Prop where
  self : w.heap[C]? = some (.cells #[.int .i64 s.st, .pointer (some ⟨F, 0, none⟩), .int .i64 pat, .int .i64 s.keep, .int .i64 s.silence] 94 (0, 0))
  fr : FrIs w base F most s.fr
  ge : base ≤ C
def okC (C F : Nat) : Nat → Prop := fun k => k = C ∨ k = F
section
variable {w w1 : World} {base C F : Nat} {most pat : Int} {s : CoS}
theorem CoIs.ne (h : CoIs w base C F most pat s) : C ≠ F := by
  rintro rfl
  obtain ⟨cells, h2⟩ := h.fr.self
  rw [h.self] at h2; injection h2 with h2; injection h2 with _ h2; exact absurd h2 (by decide)
theorem CoIs.frm {ok : Nat → Prop} (h : CoIs w base C F most pat s) (hf : Fr ok w w1) (hok : ∀ k, k < w.heap.size → ok k → ∃ cells t, w.heap[k]? = some (.cells cells t (0, 0)) ∧ t ≠ 5 ∧ t ≠ 136 ∧ t ≠ 121 ∧ t ≠ 94) : CoIs w1 base C F most pat s := by
  refine ⟨(hf.block C (blk_lt h.self) fun e => ?_).trans h.self, h.fr.fr hf (fun k hk e => ?_), h.ge⟩
  · obtain ⟨cells, t, hc, _, _, _, ht⟩ := hok C (blk_lt h.self) e
    rw [h.self] at hc; injection hc with hc; injection hc with _ hc; exact ht hc.symm
  · obtain ⟨cells, t, hc, a1, a2, a3, _⟩ := hok k hk e; exact ⟨cells, t, hc, a1, a2, a3⟩
theorem CoIs.below (h : CoIs w base C F most pat s) (hb : Below w.heap.size w w1) : CoIs w1 base C F most pat s := h.frm (Fr.of_below (fun _ => False) hb) (fun _ _ e => e.elim)
theorem CoIs.step {f2 : FrS} (h : CoIs w base C F most pat s) (h2 : FrIs w1 base F most f2) (hf : Fr (fun k => k = F) w w1) : CoIs w1 base C F most pat ⟨s.st, f2, s.keep, s.silence⟩ :=
  ⟨(hf.block C (blk_lt h.self) h.ne).trans h.self, h2, h.ge⟩
theorem CoIs.put (h : CoIs w base C F most pat s) {s2 : CoS} (j : Nat) (u : Value) (e : #[Value.int .i64 s.st, .pointer (some ⟨F, 0, none⟩), .int .i64 pat, .int .i64 s.keep, .int .i64 s.silence].setIfInBounds j u = #[.int .i64 s2.st, .pointer (some ⟨F, 0, none⟩), .int .i64 pat, .int .i64 s2.keep, .int .i64 s2.silence]) (hf : s2.fr = s.fr) : CoIs (w.setCell ⟨C, j, none⟩ u) base C F most pat s2 := by
  refine ⟨by rw [← e]; exact blk_set h.self j u, ?_, h.ge⟩
  rw [hf]
  exact h.fr.fr ((Fr.refl (fun k => k = C) w).setCell (p := ⟨C, j, none⟩) (fun _ => rfl) u) (fun k hk e => ⟨_, _, e ▸ h.self, by decide, by decide, by decide⟩)
theorem coNew_any (most pat : Int) (w : World) :
    Calls Tryz.prog 13 #[.int .i64 most, .int .i64 pat] w fun e w' => ∃ C F, e = .returned (.pointer (some ⟨C, 0, none⟩)) ∧ CoIs w' w.heap.size C F most (max pat 0) CoS.new ∧ Below w.heap.size w w' := by
  go_enter Tryz.func13, Tryz.ntmps13
  go_wp2_with (go_at_call 40; (with_reducible refine (frmNew_any most _).mono ?_); rintro e w1 ⟨F, rfl, hF, hB⟩; have HF := Aside0.mk hF; have HB := Aside0.mk hB; clear hF hB)
  go_ret
  exact ⟨_, F, rfl, ⟨heap_alloc_new _ _, HF.out.below ((Below.refl _ _).alloc (Nat.le_refl _) _), HB.out.size⟩, HB.out.alloc HB.out.size _⟩
theorem over_any (h : CoIs w base C F most pat s) :
    Calls Tryz.prog 17 #[.pointer (some ⟨C, 0, none⟩)] w fun e w' => e = .returned (.bool (s.st == 2)) ∧ w = w' := by
  have x0 : w.cell? ⟨C, 0, none⟩ = some (.int .i64 s.st) := blk_cell h.self 0
  clear h
  go_enter Tryz.func17, Tryz.ntmps17
  go_wp2
  go_ret
  exact ⟨rfl, rfl⟩
theorem push_any (h : CoIs w base C F most pat s) (l : List Int) (A : Option Addr) (c : Nat) (hr : (Kd.int .u8).C w A l.length l) (hb : ∀ x ∈ l, 0 ≤ x ∧ x ≤ 255) (hlen : s.fr.b.length + l.length ≤ 1099511627776) :
    Calls Tryz.prog 14 #[.pointer (some ⟨C, 0, none⟩), .slice A l.length c] w fun e w' => e = .returned (.tuple #[]) ∧ CoIs w' base C F most pat (s.push l) ∧ Fr (fun k => k = F) w w' := by
  have x0 : w.cell? ⟨C, 0, none⟩ = some (.int .i64 s.st) := blk_cell h.self 0
  have x1 : w.cell? ⟨C, 1, none⟩ = some (.pointer (some ⟨F, 0, none⟩)) := blk_cell h.self 1
  have HH := Aside0.mk h
  by_cases h2 : s.st = 2
  · have HE := Aside0.mk (show s.push l = s by unfold CoS.push; rw [if_pos h2])
    have t2 : (s.st != 2) = false := by simp [h2]
    clear h hr hb
    go_enter Tryz.func14, Tryz.ntmps14
    go_wp2
    refine Great.bodyPost_end0 rfl rfl ⟨rfl, by rw [HE.out]; exact HH.out, Fr.refl _ _⟩
  · have HE := Aside0.mk (show s.push l = ⟨s.st, s.fr.put l, s.keep, s.silence⟩ by unfold CoS.push; rw [if_neg h2])
    have t2 : (s.st != 2) = true := by simp [h2]
    have HP := Aside0.mk (put_any h.fr l A c hr hb hlen)
    clear h hr hb
    go_enter Tryz.func14, Tryz.ntmps14
    go_wp2_with (go_at_call 41; (with_reducible refine (HP.out).mono ?_); rintro e w1 ⟨rfl, hF, hB⟩; have HF := Aside0.mk hF; have HB := Aside0.mk hB; clear hF hB)
    refine Great.bodyPost_end0 rfl rfl ⟨rfl, by rw [HE.out]; exact HH.out.step HF.out HB.out, HB.out⟩
end
end Go.Proofs.YthlbcgaegaoanaaGreatDoor.Cr

namespace Go.Proofs.YthlbcgaegaoanaaGreatDoor.Cr
open Go Go.RowKit Go.Proofs.YthlbcgaegaoanaaGreatDoorW.PrintWords Go.Proofs.YthlbcgaegaoanaaGreatDoorW.PrintLast Go.Proofs.YthlbcgaegaoanaaGreatDoorW.PrintMore Go.Proofs.YthlbcgaegaoanaaGreatDoor.Kinds Go.Proofs.YthlbcgaegaoanaaGreatDoor.Utf Go.Proofs.YthlbcgaegaoanaaGreatDoor.Chk Go.Proofs.YthlbcgaegaoanaaGreatDoor.Rdr
set_option linter.unusedVariables false
set_option linter.unusedSimpArgs false
def lateB (st pat kp si : Int) : Bool := if st = 1 then decide (0 < kp) && decide (wrap64 (kp.tdiv 2) < wrap64 (si - kp)) else decide (0 < pat) && decide (pat < si)
def CoS.tick (pat : Int) (s : CoS) : Bool × CoS :=
  if s.st = 2 then (false, s) else (lateB s.st pat s.keep (wrap64 (s.silence + 1)), ⟨s.st, s.fr, s.keep, wrap64 (s.silence + 1)⟩)
section
variable {w w1 : World} {base C F : Nat} {most pat : Int} {s : CoS}
set_option maxRecDepth 100000 in
theorem tick_any (h : CoIs w base C F most pat s) :
    Calls Tryz.prog 19 #[.pointer (some ⟨C, 0, none⟩)] w fun e w' => e = .returned (.bool (s.tick pat).1) ∧ CoIs w' base C F most pat (s.tick pat).2 ∧ Fr (fun k => k = C) w w' := by
  have x0 : w.cell? ⟨C, 0, none⟩ = some (.int .i64 s.st) := blk_cell h.self 0
  have HH := Aside0.mk h
  by_cases h2 : s.st = 2
  · have HE := Aside0.mk (show s.tick pat = (false, s) by unfold CoS.tick; rw [if_pos h2])
    have t2 : (s.st == 2) = true := by simp [h2]
    clear h
    go_enter Tryz.func19, Tryz.ntmps19
    go_wp2
    go_ret
    rw [HE.out]
    exact ⟨rfl, HH.out, Fr.refl _ _⟩
  · have t2 : (s.st == 2) = false := by simp [h2]
    obtain ⟨si, hsi⟩ : ∃ si, si = wrap64 (s.silence + 1) := ⟨_, rfl⟩
    have HE := Aside0.mk (show s.tick pat = (lateB s.st pat s.keep si, ⟨s.st, s.fr, s.keep, si⟩) by unfold CoS.tick; rw [if_neg h2, hsi])
    obtain ⟨W5, hW5⟩ : ∃ W5, W5 = w.setCell ⟨C, 4, none⟩ (.int .i64 si) := ⟨_, rfl⟩
    have hc5 : CoIs W5 base C F most pat ⟨s.st, s.fr, s.keep, si⟩ := by rw [hW5]; exact h.put (s2 := ⟨s.st, s.fr, s.keep, si⟩) 4 (.int .i64 si) rfl rfl
    have HC5 := Aside0.mk hc5
    have HF5 := Aside0.mk (show Fr (fun k => k = C) w W5 by rw [hW5]; exact (Fr.refl (fun k => k = C) w).setCell (p := ⟨C, 4, none⟩) (fun _ => rfl) _)
    have y0 : W5.cell? ⟨C, 0, none⟩ = some (.int .i64 s.st) := blk_cell hc5.self 0
    have x2 : W5.cell? ⟨C, 2, none⟩ = some (.int .i64 pat) := blk_cell hc5.self 2
    obtain ⟨kp, hkp⟩ : ∃ kp, kp = s.keep := ⟨_, rfl⟩
    have x3 : W5.cell? ⟨C, 3, none⟩ = some (.int .i64 kp) := by rw [hkp]; exact blk_cell hc5.self 3
    have x4 : W5.cell? ⟨C, 4, none⟩ = some (.int .i64 si) := blk_cell hc5.self 4
    have HD5 := Aside0.mk (hc5.below (w1 := W5.drew) (below_drew1 (Below.refl _ _)))
    have HFD := Aside0.mk (show Fr (fun k => k = C) w W5.drew from HF5.out.drew)
    have z4 : w.cell? ⟨C, 4, none⟩ = some (.int .i64 s.silence) := blk_cell h.self 4
    have zf : w.frozen? ⟨C, 4, none⟩ = false := blk_frozen h.self 4
    have HW5 := Aside0.mk hW5
    have HSI := Aside0.mk hsi
    have HKP := Aside0.mk hkp
    clear h hc5 hW5 hsi hkp
    go_enter Tryz.func19, Tryz.ntmps19
    go_upto_region 4 with fail
    refine wp_wld (w2 := W5) (by rw [HW5.out, HSI.out]) ?_
    clear HW5 x0 z4 zf
    by_cases h1 : s.st = 1
    · have t1 : (s.st == 1) = true := by simp [h1]
      rcases Int.lt_or_le 0 kp with hk | hk
      · have d1 : decide (0 < kp) = true := decide_eq_true hk
        have d2 : decide (kp > 0) = true := decide_eq_true hk
        have HL := Aside0.mk (show lateB s.st pat s.keep si = decide (wrap64 (kp.tdiv 2) < wrap64 (si - kp)) by unfold lateB; rw [if_pos h1, ← HKP.out, d1]; simp)
        clear h1 hk h2
        go_upto_region 5 with fail
        refine start_ (n := 23) (S := fun w' => w'.cell? ⟨C, 3, none⟩ = some (.int .i64 kp) ∧ w'.cell? ⟨C, 4, none⟩ = some (.int .i64 si)) (ds := []) #[false, false, false, false, false, false, false, false, false, false, false, false, false, false, false, false, false, false, false, false, false, false, false] (by kernel_rfl) rfl rfl ⟨x3, x4⟩ (fun hHeld => ?_)
        refine pure_ (i := 0) (N := some 20) (v := ?_) (a' := ?_) #[true, false, false, false, false, false, false, false, false, false, false, false, false, false, false, false, false, false, false, false, false, false, false] rfl rfl (by kernel_rfl) (fun _ _ _ h => h) (Or.inl ⟨by rfl, ?_⟩) ?_ ?_
        rotate_left
        · intro w'
          go_simp
          with_reducible rfl
        rotate_left
        · simp only [Act.put, List.setIfInBounds_toArray, List.set_cons_zero, List.set_cons_succ, i64_w, i32_w]
          rfl
        refine pure_ (i := 1) (N := some 21) (v := ?_) (a' := ?_) #[true, true, false, false, false, false, false, false, false, false, false, false, false, false, false, false, false, false, false, false, false, false, false] rfl rfl (by kernel_rfl) (fun _ _ _ h => h) (Or.inl ⟨by rfl, ?_⟩) ?_ ?_
        rotate_left
        · intro w'
          go_simp
          with_reducible rfl
        rotate_left
        · simp only [Act.put, List.setIfInBounds_toArray, List.set_cons_zero, List.set_cons_succ, i64_w, i32_w]
          rfl
        refine pure_ (i := 2) (N := some 22) (v := ?_) (a' := ?_) #[true, true, true, false, false, false, false, false, false, false, false, false, false, false, false, false, false, false, false, false, false, false, false] rfl rfl (by kernel_rfl) (fun _ _ _ h => h) (Or.inl ⟨by rfl, ?_⟩) ?_ ?_
        rotate_left
        · intro w'
          go_simp
          with_reducible rfl
        rotate_left
        · simp only [Act.put, List.setIfInBounds_toArray, List.set_cons_zero, List.set_cons_succ, i64_w, i32_w]
          rfl
        refine take_ (i := 3) (N := some 23) (v := ?_) (a' := ?_) #[true, true, true, true, false, false, false, false, false, false, false, false, false, false, false, false, false, false, false, false, false, false, false] rfl rfl (by kernel_rfl) (fun _ _ _ h => h) (Or.inl ⟨by rfl, ?_⟩) hHeld ?_ ?_
        rotate_left
        · rintro w' ⟨s0, s1⟩
          go_simp
          with_reducible rfl
        rotate_left
        · simp only [Act.put, List.setIfInBounds_toArray, List.set_cons_zero, List.set_cons_succ, i64_w, i32_w]
          rfl
        refine pure_ (i := 4) (N := some 24) (v := ?_) (a' := ?_) #[true, true, true, true, true, false, false, false, false, false, false, false, false, false, false, false, false, false, false, false, false, false, false] rfl rfl (by kernel_rfl) (fun _ _ _ h => h) (Or.inl ⟨by rfl, ?_⟩) ?_ ?_
        rotate_left
        · intro w'
          go_simp
          with_reducible rfl
        rotate_left
        · simp only [Act.put, List.setIfInBounds_toArray, List.set_cons_zero, List.set_cons_succ, i64_w, i32_w]
          rfl
        refine pure_ (i := 5) (N := some 25) (v := ?_) (a' := ?_) #[true, true, true, true, true, true, false, false, false, false, false, false, false, false, false, false, false, false, false, false, false, false, false] rfl rfl (by kernel_rfl) (fun _ _ _ h => h) (Or.inl ⟨by rfl, ?_⟩) ?_ ?_
        rotate_left
        · intro w'
          go_simp
          with_reducible rfl
        rotate_left
        · simp only [Act.put, List.setIfInBounds_toArray, List.set_cons_zero, List.set_cons_succ, i64_w, i32_w]
          rfl
        refine pure_ (i := 6) (N := some 26) (v := ?_) (a' := ?_) #[true, true, true, true, true, true, true, false, false, false, false, false, false, false, false, false, false, false, false, false, false, false, false] rfl rfl (by kernel_rfl) (fun _ _ _ h => h) (Or.inl ⟨by rfl, ?_⟩) ?_ ?_
        rotate_left
        · intro w'
          go_simp
          with_reducible rfl
        rotate_left
        · simp only [Act.put, List.setIfInBounds_toArray, List.set_cons_zero, List.set_cons_succ, i64_w, i32_w]
          rfl
        refine pure_ (i := 7) (N := some 27) (v := ?_) (a' := ?_) #[true, true, true, true, true, true, true, true, false, false, false, false, false, false, false, false, false, false, false, false, false, false, false] rfl rfl (by kernel_rfl) (fun _ _ _ h => h) (Or.inl ⟨by rfl, ?_⟩) ?_ ?_
        rotate_left
        · intro w'
          go_simp
          with_reducible rfl
        rotate_left
        · simp only [Act.put, List.setIfInBounds_toArray, List.set_cons_zero, List.set_cons_succ, i64_w, i32_w]
          rfl
        refine pure_ (i := 8) (N := some 28) (v := ?_) (a' := ?_) #[true, true, true, true, true, true, true, true, true, false, false, false, false, false, false, false, false, false, false, false, false, false, false] rfl rfl (by kernel_rfl) (fun _ _ _ h => h) (Or.inl ⟨by rfl, ?_⟩) ?_ ?_
        rotate_left
        · intro w'
          go_simp
          with_reducible rfl
        rotate_left
        · simp only [Act.put, List.setIfInBounds_toArray, List.set_cons_zero, List.set_cons_succ, i64_w, i32_w]
          rfl
        refine pure_ (i := 10) (N := some 30) (v := ?_) (a' := ?_) #[true, true, true, true, true, true, true, true, true, false, true, false, false, false, false, false, false, false, false, false, false, false, false] rfl rfl (by kernel_rfl) (fun _ _ _ h => h) (Or.inl ⟨by rfl, ?_⟩) ?_ ?_
        rotate_left
        · intro w'
          go_simp
          with_reducible rfl
        rotate_left
        · simp only [Act.put, List.setIfInBounds_toArray, List.set_cons_zero, List.set_cons_succ, i64_w, i32_w]
          rfl
        refine pure_ (i := 11) (N := some 31) (v := ?_) (a' := ?_) #[true, true, true, true, true, true, true, true, true, false, true, true, false, false, false, false, false, false, false, false, false, false, false] rfl rfl (by kernel_rfl) (fun _ _ _ h => h) (Or.inl ⟨by rfl, ?_⟩) ?_ ?_
        rotate_left
        · intro w'
          go_simp
          with_reducible rfl
        rotate_left
        · simp only [Act.put, List.setIfInBounds_toArray, List.set_cons_zero, List.set_cons_succ, i64_w, i32_w]
          rfl
        refine pure_ (i := 12) (N := some 32) (v := ?_) (a' := ?_) #[true, true, true, true, true, true, true, true, true, false, true, true, true, false, false, false, false, false, false, false, false, false, false] rfl rfl (by kernel_rfl) (fun _ _ _ h => h) (Or.inl ⟨by rfl, ?_⟩) ?_ ?_
        rotate_left
        · intro w'
          go_simp
          with_reducible rfl
        rotate_left
        · simp only [Act.put, List.setIfInBounds_toArray, List.set_cons_zero, List.set_cons_succ, i64_w, i32_w]
          rfl
        refine pure_ (i := 15) (N := some 35) (v := ?_) (a' := ?_) #[true, true, true, true, true, true, true, true, true, false, true, true, true, false, false, true, false, false, false, false, false, false, false] rfl rfl (by kernel_rfl) (fun _ _ _ h => h) (Or.inl ⟨by rfl, ?_⟩) ?_ ?_
        rotate_left
        · intro w'
          go_simp
          with_reducible rfl
        rotate_left
        · simp only [Act.put, List.setIfInBounds_toArray, List.set_cons_zero, List.set_cons_succ, i64_w, i32_w]
          rfl
        refine pure_ (i := 16) (N := some 36) (v := ?_) (a' := ?_) #[true, true, true, true, true, true, true, true, true, false, true, true, true, false, false, true, true, false, false, false, false, false, false] rfl rfl (by kernel_rfl) (fun _ _ _ h => h) (Or.inl ⟨by rfl, ?_⟩) ?_ ?_
        rotate_left
        · intro w'
          go_simp
          with_reducible rfl
        rotate_left
        · simp only [Act.put, List.setIfInBounds_toArray, List.set_cons_zero, List.set_cons_succ, i64_w, i32_w]
          rfl
        refine pure_ (i := 17) (N := some 37) (v := ?_) (a' := ?_) #[true, true, true, true, true, true, true, true, true, false, true, true, true, false, false, true, true, true, false, false, false, false, false] rfl rfl (by kernel_rfl) (fun _ _ _ h => h) (Or.inl ⟨by rfl, ?_⟩) ?_ ?_
        rotate_left
        · intro w'
          go_simp
          with_reducible rfl
        rotate_left
        · simp only [Act.put, List.setIfInBounds_toArray, List.set_cons_zero, List.set_cons_succ, i64_w, i32_w]
          rfl
        refine take_ (i := 9) (N := some 29) (v := ?_) (a' := ?_) #[true, true, true, true, true, true, true, true, true, true, true, true, true, false, false, true, true, true, false, false, false, false, false] rfl rfl (by kernel_rfl) (fun _ _ _ h => h) (Or.inl ⟨by rfl, ?_⟩) hHeld ?_ ?_
        rotate_left
        · rintro w' ⟨s0, s1⟩
          go_simp
          with_reducible rfl
        rotate_left
        · simp only [Act.put, List.setIfInBounds_toArray, List.set_cons_zero, List.set_cons_succ, i64_w, i32_w]
          rfl
        refine take_ (i := 13) (N := some 33) (v := ?_) (a' := ?_) #[true, true, true, true, true, true, true, true, true, true, true, true, true, true, false, true, true, true, false, false, false, false, false] rfl rfl (by kernel_rfl) (fun _ _ _ h => h) (Or.inl ⟨by rfl, ?_⟩) hHeld ?_ ?_
        rotate_left
        · rintro w' ⟨s0, s1⟩
          go_simp
          with_reducible rfl
        rotate_left
        · simp only [Act.put, List.setIfInBounds_toArray, List.set_cons_zero, List.set_cons_succ, i64_w, i32_w]
          rfl
        refine pure_ (i := 14) (N := some 34) (v := ?_) (a' := ?_) #[true, true, true, true, true, true, true, true, true, true, true, true, true, true, true, true, true, true, false, false, false, false, false] rfl rfl (by kernel_rfl) (fun _ _ _ h => h) (Or.inl ⟨by rfl, ?_⟩) ?_ ?_
        rotate_left
        · intro w'
          go_simp
          with_reducible rfl
        rotate_left
        · simp only [Act.put, List.setIfInBounds_toArray, List.set_cons_zero, List.set_cons_succ, i64_w, i32_w]
          rfl
        refine take_ (i := 18) (N := some 38) (v := ?_) (a' := ?_) #[true, true, true, true, true, true, true, true, true, true, true, true, true, true, true, true, true, true, true, false, false, false, false] rfl rfl (by kernel_rfl) (fun _ _ _ h => h) (Or.inl ⟨by rfl, ?_⟩) hHeld ?_ ?_
        rotate_left
        · rintro w' ⟨s0, s1⟩
          go_simp
          with_reducible rfl
        rotate_left
        · simp only [Act.put, List.setIfInBounds_toArray, List.set_cons_zero, List.set_cons_succ, i64_w, i32_w]
          rfl
        refine pure_ (i := 19) (N := some 39) (v := ?_) (a' := ?_) #[true, true, true, true, true, true, true, true, true, true, true, true, true, true, true, true, true, true, true, true, false, false, false] rfl rfl (by kernel_rfl) (fun _ _ _ h => h) (Or.inl ⟨by rfl, ?_⟩) ?_ ?_
        rotate_left
        · intro w'
          go_simp
          with_reducible rfl
        rotate_left
        · simp only [Act.put, List.setIfInBounds_toArray, List.set_cons_zero, List.set_cons_succ, i64_w, i32_w]
          rfl
        refine pure_ (i := 20) (N := some 40) (v := ?_) (a' := ?_) #[true, true, true, true, true, true, true, true, true, true, true, true, true, true, true, true, true, true, true, true, true, false, false] rfl rfl (by kernel_rfl) (fun _ _ _ h => h) (Or.inl ⟨by rfl, ?_⟩) ?_ ?_
        rotate_left
        · intro w'
          go_simp
          with_reducible rfl
        rotate_left
        · simp only [Act.put, List.setIfInBounds_toArray, List.set_cons_zero, List.set_cons_succ, i64_w, i32_w]
          rfl
        refine pure_ (i := 21) (N := some 41) (v := ?_) (a' := ?_) #[true, true, true, true, true, true, true, true, true, true, true, true, true, true, true, true, true, true, true, true, true, true, false] rfl rfl (by kernel_rfl) (fun _ _ _ h => h) (Or.inl ⟨by rfl, ?_⟩) ?_ ?_
        rotate_left
        · intro w'
          go_simp
          with_reducible rfl
        rotate_left
        · simp only [Act.put, List.setIfInBounds_toArray, List.set_cons_zero, List.set_cons_succ, i64_w, i32_w]
          rfl
        refine pure_ (i := 22) (N := some 2) (v := ?_) (a' := ?_) #[true, true, true, true, true, true, true, true, true, true, true, true, true, true, true, true, true, true, true, true, true, true, true] rfl rfl (by kernel_rfl) (fun _ _ _ h => h) (Or.inl ⟨by rfl, ?_⟩) ?_ ?_
        rotate_left
        · intro w'
          go_simp
          with_reducible rfl
        rotate_left
        · simp only [Act.put, List.setIfInBounds_toArray, List.set_cons_zero, List.set_cons_succ, i64_w, i32_w]
          rfl
        refine done_ (by kernel_rfl) ?_
        go_wp2
        go_ret
        rw [HE.out]
        exact ⟨by rw [HL.out]; rfl, HD5.out, HFD.out⟩
      · have d1 : decide (0 < kp) = false := decide_eq_false (by omega)
        have d2 : decide (kp > 0) = false := decide_eq_false (by omega)
        have HL := Aside0.mk (show lateB s.st pat s.keep si = false by unfold lateB; rw [if_pos h1, ← HKP.out, d1]; simp)
        clear h1 hk h2
        go_upto_region 5 with fail
        refine start_ (n := 23) (S := fun w' => w'.cell? ⟨C, 3, none⟩ = some (.int .i64 kp)) (ds := []) #[false, false, false, false, false, false, false, false, false, false, false, false, false, false, false, false, false, false, false, false, false, false, false] (by kernel_rfl) rfl rfl (x3) (fun hHeld => ?_)
        refine pure_ (i := 0) (N := some 20) (v := ?_) (a' := ?_) #[true, false, false, false, false, false, false, false, false, false, false, false, false, false, false, false, false, false, false, false, false, false, false] rfl rfl (by kernel_rfl) (fun _ _ _ h => h) (Or.inl ⟨by rfl, ?_⟩) ?_ ?_
        rotate_left
        · intro w'
          go_simp
          with_reducible rfl
        rotate_left
        · simp only [Act.put, List.setIfInBounds_toArray, List.set_cons_zero, List.set_cons_succ, i64_w, i32_w]
          rfl
        refine pure_ (i := 1) (N := some 21) (v := ?_) (a' := ?_) #[true, true, false, false, false, false, false, false, false, false, false, false, false, false, false, false, false, false, false, false, false, false, false] rfl rfl (by kernel_rfl) (fun _ _ _ h => h) (Or.inl ⟨by rfl, ?_⟩) ?_ ?_
        rotate_left
        · intro w'
          go_simp
          with_reducible rfl
        rotate_left
        · simp only [Act.put, List.setIfInBounds_toArray, List.set_cons_zero, List.set_cons_succ, i64_w, i32_w]
          rfl
        refine pure_ (i := 2) (N := some 22) (v := ?_) (a' := ?_) #[true, true, true, false, false, false, false, false, false, false, false, false, false, false, false, false, false, false, false, false, false, false, false] rfl rfl (by kernel_rfl) (fun _ _ _ h => h) (Or.inl ⟨by rfl, ?_⟩) ?_ ?_
        rotate_left
        · intro w'
          go_simp
          with_reducible rfl
        rotate_left
        · simp only [Act.put, List.setIfInBounds_toArray, List.set_cons_zero, List.set_cons_succ, i64_w, i32_w]
          rfl
        refine take_ (i := 3) (N := some 23) (v := ?_) (a' := ?_) #[true, true, true, true, false, false, false, false, false, false, false, false, false, false, false, false, false, false, false, false, false, false, false] rfl rfl (by kernel_rfl) (fun _ _ _ h => h) (Or.inl ⟨by rfl, ?_⟩) hHeld ?_ ?_
        rotate_left
        · intro w' s0
          go_simp
          with_reducible rfl
        rotate_left
        · simp only [Act.put, List.setIfInBounds_toArray, List.set_cons_zero, List.set_cons_succ, i64_w, i32_w]
          rfl
        refine pure_ (i := 4) (N := some 24) (v := ?_) (a' := ?_) #[true, true, true, true, true, false, false, false, false, false, false, false, false, false, false, false, false, false, false, false, false, false, false] rfl rfl (by kernel_rfl) (fun _ _ _ h => h) (Or.inl ⟨by rfl, ?_⟩) ?_ ?_
        rotate_left
        · intro w'
          go_simp
          with_reducible rfl
        rotate_left
        · simp only [Act.put, List.setIfInBounds_toArray, List.set_cons_zero, List.set_cons_succ, i64_w, i32_w]
          rfl
        refine pure_ (i := 5) (N := some 25) (v := ?_) (a' := ?_) #[true, true, true, true, true, true, false, false, false, false, false, false, false, false, false, false, false, false, false, false, false, false, false] rfl rfl (by kernel_rfl) (fun _ _ _ h => h) (Or.inl ⟨by rfl, ?_⟩) ?_ ?_
        rotate_left
        · intro w'
          go_simp
          with_reducible rfl
        rotate_left
        · simp only [Act.put, List.setIfInBounds_toArray, List.set_cons_zero, List.set_cons_succ, i64_w, i32_w]
          rfl
        refine pure_ (i := 6) (N := some 26) (v := undef) (a' := ?_) #[true, true, true, true, true, true, true, false, false, false, false, false, false, false, false, false, false, false, false, false, false, false, false] rfl rfl (by kernel_rfl) (fun _ _ _ h => h) (Or.inr ⟨by rfl, rfl⟩) ?_ ?_
        rotate_left
        · simp only [Act.put, List.setIfInBounds_toArray, List.set_cons_zero, List.set_cons_succ, i64_w, i32_w]
          rfl
        refine pure_ (i := 7) (N := some 27) (v := undef) (a' := ?_) #[true, true, true, true, true, true, true, true, false, false, false, false, false, false, false, false, false, false, false, false, false, false, false] rfl rfl (by kernel_rfl) (fun _ _ _ h => h) (Or.inr ⟨by rfl, rfl⟩) ?_ ?_
        rotate_left
        · simp only [Act.put, List.setIfInBounds_toArray, List.set_cons_zero, List.set_cons_succ, i64_w, i32_w]
          rfl
        refine pure_ (i := 8) (N := some 28) (v := undef) (a' := ?_) #[true, true, true, true, true, true, true, true, true, false, false, false, false, false, false, false, false, false, false, false, false, false, false] rfl rfl (by kernel_rfl) (fun _ _ _ h => h) (Or.inr ⟨by rfl, rfl⟩) ?_ ?_
        rotate_left
        · simp only [Act.put, List.setIfInBounds_toArray, List.set_cons_zero, List.set_cons_succ, i64_w, i32_w]
          rfl
        refine pure_ (i := 9) (N := some 29) (v := undef) (a' := ?_) #[true, true, true, true, true, true, true, true, true, true, false, false, false, false, false, false, false, false, false, false, false, false, false] rfl rfl (by kernel_rfl) (fun _ _ _ h => h) (Or.inr ⟨by rfl, rfl⟩) ?_ ?_
        rotate_left
        · simp only [Act.put, List.setIfInBounds_toArray, List.set_cons_zero, List.set_cons_succ, i64_w, i32_w]
          rfl
        refine pure_ (i := 10) (N := some 30) (v := undef) (a' := ?_) #[true, true, true, true, true, true, true, true, true, true, true, false, false, false, false, false, false, false, false, false, false, false, false] rfl rfl (by kernel_rfl) (fun _ _ _ h => h) (Or.inr ⟨by rfl, rfl⟩) ?_ ?_
        rotate_left
        · simp only [Act.put, List.setIfInBounds_toArray, List.set_cons_zero, List.set_cons_succ, i64_w, i32_w]
          rfl
        refine pure_ (i := 11) (N := some 31) (v := undef) (a' := ?_) #[true, true, true, true, true, true, true, true, true, true, true, true, false, false, false, false, false, false, false, false, false, false, false] rfl rfl (by kernel_rfl) (fun _ _ _ h => h) (Or.inr ⟨by rfl, rfl⟩) ?_ ?_
        rotate_left
        · simp only [Act.put, List.setIfInBounds_toArray, List.set_cons_zero, List.set_cons_succ, i64_w, i32_w]
          rfl
        refine pure_ (i := 12) (N := some 32) (v := undef) (a' := ?_) #[true, true, true, true, true, true, true, true, true, true, true, true, true, false, false, false, false, false, false, false, false, false, false] rfl rfl (by kernel_rfl) (fun _ _ _ h => h) (Or.inr ⟨by rfl, rfl⟩) ?_ ?_
        rotate_left
        · simp only [Act.put, List.setIfInBounds_toArray, List.set_cons_zero, List.set_cons_succ, i64_w, i32_w]
          rfl
        refine pure_ (i := 13) (N := some 33) (v := undef) (a' := ?_) #[true, true, true, true, true, true, true, true, true, true, true, true, true, true, false, false, false, false, false, false, false, false, false] rfl rfl (by kernel_rfl) (fun _ _ _ h => h) (Or.inr ⟨by rfl, rfl⟩) ?_ ?_
        rotate_left
        · simp only [Act.put, List.setIfInBounds_toArray, List.set_cons_zero, List.set_cons_succ, i64_w, i32_w]
          rfl
        refine pure_ (i := 14) (N := some 34) (v := undef) (a' := ?_) #[true, true, true, true, true, true, true, true, true, true, true, true, true, true, true, false, false, false, false, false, false, false, false] rfl rfl (by kernel_rfl) (fun _ _ _ h => h) (Or.inr ⟨by rfl, rfl⟩) ?_ ?_
        rotate_left
        · simp only [Act.put, List.setIfInBounds_toArray, List.set_cons_zero, List.set_cons_succ, i64_w, i32_w]
          rfl
        refine pure_ (i := 15) (N := some 35) (v := undef) (a' := ?_) #[true, true, true, true, true, true, true, true, true, true, true, true, true, true, true, true, false, false, false, false, false, false, false] rfl rfl (by kernel_rfl) (fun _ _ _ h => h) (Or.inr ⟨by rfl, rfl⟩) ?_ ?_
        rotate_left
        · simp only [Act.put, List.setIfInBounds_toArray, List.set_cons_zero, List.set_cons_succ, i64_w, i32_w]
          rfl
        refine pure_ (i := 16) (N := some 36) (v := undef) (a' := ?_) #[true, true, true, true, true, true, true, true, true, true, true, true, true, true, true, true, true, false, false, false, false, false, false] rfl rfl (by kernel_rfl) (fun _ _ _ h => h) (Or.inr ⟨by rfl, rfl⟩) ?_ ?_
        rotate_left
        · simp only [Act.put, List.setIfInBounds_toArray, List.set_cons_zero, List.set_cons_succ, i64_w, i32_w]
          rfl
        refine pure_ (i := 17) (N := some 37) (v := undef) (a' := ?_) #[true, true, true, true, true, true, true, true, true, true, true, true, true, true, true, true, true, true, false, false, false, false, false] rfl rfl (by kernel_rfl) (fun _ _ _ h => h) (Or.inr ⟨by rfl, rfl⟩) ?_ ?_
        rotate_left
        · simp only [Act.put, List.setIfInBounds_toArray, List.set_cons_zero, List.set_cons_succ, i64_w, i32_w]
          rfl
        refine pure_ (i := 18) (N := some 38) (v := undef) (a' := ?_) #[true, true, true, true, true, true, true, true, true, true, true, true, true, true, true, true, true, true, true, false, false, false, false] rfl rfl (by kernel_rfl) (fun _ _ _ h => h) (Or.inr ⟨by rfl, rfl⟩) ?_ ?_
        rotate_left
        · simp only [Act.put, List.setIfInBounds_toArray, List.set_cons_zero, List.set_cons_succ, i64_w, i32_w]
          rfl
        refine pure_ (i := 19) (N := some 39) (v := undef) (a' := ?_) #[true, true, true, true, true, true, true, true, true, true, true, true, true, true, true, true, true, true, true, true, false, false, false] rfl rfl (by kernel_rfl) (fun _ _ _ h => h) (Or.inr ⟨by rfl, rfl⟩) ?_ ?_
        rotate_left
        · simp only [Act.put, List.setIfInBounds_toArray, List.set_cons_zero, List.set_cons_succ, i64_w, i32_w]
          rfl
        refine pure_ (i := 20) (N := some 40) (v := undef) (a' := ?_) #[true, true, true, true, true, true, true, true, true, true, true, true, true, true, true, true, true, true, true, true, true, false, false] rfl rfl (by kernel_rfl) (fun _ _ _ h => h) (Or.inr ⟨by rfl, rfl⟩) ?_ ?_
        rotate_left
        · simp only [Act.put, List.setIfInBounds_toArray, List.set_cons_zero, List.set_cons_succ, i64_w, i32_w]
          rfl
        refine pure_ (i := 21) (N := some 41) (v := ?_) (a' := ?_) #[true, true, true, true, true, true, true, true, true, true, true, true, true, true, true, true, true, true, true, true, true, true, false] rfl rfl (by kernel_rfl) (fun _ _ _ h => h) (Or.inl ⟨by rfl, ?_⟩) ?_ ?_
        rotate_left
        · intro w'
          go_simp
          with_reducible rfl
        rotate_left
        · simp only [Act.put, List.setIfInBounds_toArray, List.set_cons_zero, List.set_cons_succ, i64_w, i32_w]
          rfl
        refine pure_ (i := 22) (N := some 2) (v := ?_) (a' := ?_) #[true, true, true, true, true, true, true, true, true, true, true, true, true, true, true, true, true, true, true, true, true, true, true] rfl rfl (by kernel_rfl) (fun _ _ _ h => h) (Or.inl ⟨by rfl, ?_⟩) ?_ ?_
        rotate_left
        · intro w'
          go_simp
          with_reducible rfl
        rotate_left
        · simp only [Act.put, List.setIfInBounds_toArray, List.set_cons_zero, List.set_cons_succ, i64_w, i32_w]
          rfl
        refine done_ (by kernel_rfl) ?_
        go_wp2
        go_ret
        rw [HE.out]
        exact ⟨by rw [HL.out]; rfl, HD5.out, HFD.out⟩
    · have t1 : (s.st == 1) = false := by simp [h1]
      rcases Int.lt_or_le 0 pat with hk | hk
      · have d1 : decide (0 < pat) = true := decide_eq_true hk
        have d2 : decide (pat > 0) = true := decide_eq_true hk
        have HL := Aside0.mk (show lateB s.st pat s.keep si = decide (pat < si) by unfold lateB; rw [if_neg h1, d1]; simp)
        clear h1 hk h2
        go_upto_region 6 with fail
        refine start_ (n := 17) (S := fun w' => w'.cell? ⟨C, 2, none⟩ = some (.int .i64 pat) ∧ w'.cell? ⟨C, 4, none⟩ = some (.int .i64 si)) (ds := []) #[false, false, false, false, false, false, false, false, false, false, false, false, false, false, false, false, false] (by kernel_rfl) rfl rfl ⟨x2, x4⟩ (fun hHeld => ?_)
        refine pure_ (i := 0) (N := some 42) (v := ?_) (a' := ?_) #[true, false, false, false, false, false, false, false, false, false, false, false, false, false, false, false, false] rfl rfl (by kernel_rfl) (fun _ _ _ h => h) (Or.inl ⟨by rfl, ?_⟩) ?_ ?_
        rotate_left
        · intro w'
          go_simp
          with_reducible rfl
        rotate_left
        · simp only [Act.put, List.setIfInBounds_toArray, List.set_cons_zero, List.set_cons_succ, i64_w, i32_w]
          rfl
        refine pure_ (i := 1) (N := some 43) (v := ?_) (a' := ?_) #[true, true, false, false, false, false, false, false, false, false, false, false, false, false, false, false, false] rfl rfl (by kernel_rfl) (fun _ _ _ h => h) (Or.inl ⟨by rfl, ?_⟩) ?_ ?_
        rotate_left
        · intro w'
          go_simp
          with_reducible rfl
        rotate_left
        · simp only [Act.put, List.setIfInBounds_toArray, List.set_cons_zero, List.set_cons_succ, i64_w, i32_w]
          rfl
        refine pure_ (i := 2) (N := some 44) (v := ?_) (a' := ?_) #[true, true, true, false, false, false, false, false, false, false, false, false, false, false, false, false, false] rfl rfl (by kernel_rfl) (fun _ _ _ h => h) (Or.inl ⟨by rfl, ?_⟩) ?_ ?_
        rotate_left
        · intro w'
          go_simp
          with_reducible rfl
        rotate_left
        · simp only [Act.put, List.setIfInBounds_toArray, List.set_cons_zero, List.set_cons_succ, i64_w, i32_w]
          rfl
        refine take_ (i := 3) (N := some 45) (v := ?_) (a' := ?_) #[true, true, true, true, false, false, false, false, false, false, false, false, false, false, false, false, false] rfl rfl (by kernel_rfl) (fun _ _ _ h => h) (Or.inl ⟨by rfl, ?_⟩) hHeld ?_ ?_
        rotate_left
        · rintro w' ⟨s0, s1⟩
          go_simp
          with_reducible rfl
        rotate_left
        · simp only [Act.put, List.setIfInBounds_toArray, List.set_cons_zero, List.set_cons_succ, i64_w, i32_w]
          rfl
        refine pure_ (i := 4) (N := some 46) (v := ?_) (a' := ?_) #[true, true, true, true, true, false, false, false, false, false, false, false, false, false, false, false, false] rfl rfl (by kernel_rfl) (fun _ _ _ h => h) (Or.inl ⟨by rfl, ?_⟩) ?_ ?_
        rotate_left
        · intro w'
          go_simp
          with_reducible rfl
        rotate_left
        · simp only [Act.put, List.setIfInBounds_toArray, List.set_cons_zero, List.set_cons_succ, i64_w, i32_w]
          rfl
        refine pure_ (i := 5) (N := some 47) (v := ?_) (a' := ?_) #[true, true, true, true, true, true, false, false, false, false, false, false, false, false, false, false, false] rfl rfl (by kernel_rfl) (fun _ _ _ h => h) (Or.inl ⟨by rfl, ?_⟩) ?_ ?_
        rotate_left
        · intro w'
          go_simp
          with_reducible rfl
        rotate_left
        · simp only [Act.put, List.setIfInBounds_toArray, List.set_cons_zero, List.set_cons_succ, i64_w, i32_w]
          rfl
        refine pure_ (i := 6) (N := some 48) (v := ?_) (a' := ?_) #[true, true, true, true, true, true, true, false, false, false, false, false, false, false, false, false, false] rfl rfl (by kernel_rfl) (fun _ _ _ h => h) (Or.inl ⟨by rfl, ?_⟩) ?_ ?_
        rotate_left
        · intro w'
          go_simp
          with_reducible rfl
        rotate_left
        · simp only [Act.put, List.setIfInBounds_toArray, List.set_cons_zero, List.set_cons_succ, i64_w, i32_w]
          rfl
        refine pure_ (i := 7) (N := some 49) (v := ?_) (a' := ?_) #[true, true, true, true, true, true, true, true, false, false, false, false, false, false, false, false, false] rfl rfl (by kernel_rfl) (fun _ _ _ h => h) (Or.inl ⟨by rfl, ?_⟩) ?_ ?_
        rotate_left
        · intro w'
          go_simp
          with_reducible rfl
        rotate_left
        · simp only [Act.put, List.setIfInBounds_toArray, List.set_cons_zero, List.set_cons_succ, i64_w, i32_w]
          rfl
        refine pure_ (i := 8) (N := some 50) (v := ?_) (a' := ?_) #[true, true, true, true, true, true, true, true, true, false, false, false, false, false, false, false, false] rfl rfl (by kernel_rfl) (fun _ _ _ h => h) (Or.inl ⟨by rfl, ?_⟩) ?_ ?_
        rotate_left
        · intro w'
          go_simp
          with_reducible rfl
        rotate_left
        · simp only [Act.put, List.setIfInBounds_toArray, List.set_cons_zero, List.set_cons_succ, i64_w, i32_w]
          rfl
        refine pure_ (i := 10) (N := some 52) (v := ?_) (a' := ?_) #[true, true, true, true, true, true, true, true, true, false, true, false, false, false, false, false, false] rfl rfl (by kernel_rfl) (fun _ _ _ h => h) (Or.inl ⟨by rfl, ?_⟩) ?_ ?_
        rotate_left
        · intro w'
          go_simp
          with_reducible rfl
        rotate_left
        · simp only [Act.put, List.setIfInBounds_toArray, List.set_cons_zero, List.set_cons_succ, i64_w, i32_w]
          rfl
        refine pure_ (i := 11) (N := some 53) (v := ?_) (a' := ?_) #[true, true, true, true, true, true, true, true, true, false, true, true, false, false, false, false, false] rfl rfl (by kernel_rfl) (fun _ _ _ h => h) (Or.inl ⟨by rfl, ?_⟩) ?_ ?_
        rotate_left
        · intro w'
          go_simp
          with_reducible rfl
        rotate_left
        · simp only [Act.put, List.setIfInBounds_toArray, List.set_cons_zero, List.set_cons_succ, i64_w, i32_w]
          rfl
        refine pure_ (i := 12) (N := some 54) (v := ?_) (a' := ?_) #[true, true, true, true, true, true, true, true, true, false, true, true, true, false, false, false, false] rfl rfl (by kernel_rfl) (fun _ _ _ h => h) (Or.inl ⟨by rfl, ?_⟩) ?_ ?_
        rotate_left
        · intro w'
          go_simp
          with_reducible rfl
        rotate_left
        · simp only [Act.put, List.setIfInBounds_toArray, List.set_cons_zero, List.set_cons_succ, i64_w, i32_w]
          rfl
        refine take_ (i := 9) (N := some 51) (v := ?_) (a' := ?_) #[true, true, true, true, true, true, true, true, true, true, true, true, true, false, false, false, false] rfl rfl (by kernel_rfl) (fun _ _ _ h => h) (Or.inl ⟨by rfl, ?_⟩) hHeld ?_ ?_
        rotate_left
        · rintro w' ⟨s0, s1⟩
          go_simp
          with_reducible rfl
        rotate_left
        · simp only [Act.put, List.setIfInBounds_toArray, List.set_cons_zero, List.set_cons_succ, i64_w, i32_w]
          rfl
        refine take_ (i := 13) (N := some 55) (v := ?_) (a' := ?_) #[true, true, true, true, true, true, true, true, true, true, true, true, true, true, false, false, false] rfl rfl (by kernel_rfl) (fun _ _ _ h => h) (Or.inl ⟨by rfl, ?_⟩) hHeld ?_ ?_
        rotate_left
        · rintro w' ⟨s0, s1⟩
          go_simp
          with_reducible rfl
        rotate_left
        · simp only [Act.put, List.setIfInBounds_toArray, List.set_cons_zero, List.set_cons_succ, i64_w, i32_w]
          rfl
        refine pure_ (i := 14) (N := some 56) (v := ?_) (a' := ?_) #[true, true, true, true, true, true, true, true, true, true, true, true, true, true, true, false, false] rfl rfl (by kernel_rfl) (fun _ _ _ h => h) (Or.inl ⟨by rfl, ?_⟩) ?_ ?_
        rotate_left
        · intro w'
          go_simp
          with_reducible rfl
        rotate_left
        · simp only [Act.put, List.setIfInBounds_toArray, List.set_cons_zero, List.set_cons_succ, i64_w, i32_w]
          rfl
        refine pure_ (i := 15) (N := some 57) (v := ?_) (a' := ?_) #[true, true, true, true, true, true, true, true, true, true, true, true, true, true, true, true, false] rfl rfl (by kernel_rfl) (fun _ _ _ h => h) (Or.inl ⟨by rfl, ?_⟩) ?_ ?_
        rotate_left
        · intro w'
          go_simp
          with_reducible rfl
        rotate_left
        · simp only [Act.put, List.setIfInBounds_toArray, List.set_cons_zero, List.set_cons_succ, i64_w, i32_w]
          rfl
        refine pure_ (i := 16) (N := some 2) (v := ?_) (a' := ?_) #[true, true, true, true, true, true, true, true, true, true, true, true, true, true, true, true, true] rfl rfl (by kernel_rfl) (fun _ _ _ h => h) (Or.inl ⟨by rfl, ?_⟩) ?_ ?_
        rotate_left
        · intro w'
          go_simp
          with_reducible rfl
        rotate_left
        · simp only [Act.put, List.setIfInBounds_toArray, List.set_cons_zero, List.set_cons_succ, i64_w, i32_w]
          rfl
        refine done_ (by kernel_rfl) ?_
        go_wp2
        go_ret
        rw [HE.out]
        exact ⟨by rw [HL.out]; rfl, HD5.out, HFD.out⟩
      · have d1 : decide (0 < pat) = false := decide_eq_false (by omega)
        have d2 : decide (pat > 0) = false := decide_eq_false (by omega)
        have HL := Aside0.mk (show lateB s.st pat s.keep si = false by unfold lateB; rw [if_neg h1, d1]; simp)
        clear h1 hk h2
        go_upto_region 6 with fail
        refine start_ (n := 17) (S := fun w' => w'.cell? ⟨C, 2, none⟩ = some (.int .i64 pat)) (ds := []) #[false, false, false, false, false, false, false, false, false, false, false, false, false, false, false, false, false] (by kernel_rfl) rfl rfl (x2) (fun hHeld => ?_)
        refine pure_ (i := 0) (N := some 42) (v := ?_) (a' := ?_) #[true, false, false, false, false, false, false, false, false, false, false, false, false, false, false, false, false] rfl rfl (by kernel_rfl) (fun _ _ _ h => h) (Or.inl ⟨by rfl, ?_⟩) ?_ ?_
        rotate_left
        · intro w'
          go_simp
          with_reducible rfl
        rotate_left
        · simp only [Act.put, List.setIfInBounds_toArray, List.set_cons_zero, List.set_cons_succ, i64_w, i32_w]
          rfl
        refine pure_ (i := 1) (N := some 43) (v := ?_) (a' := ?_) #[true, true, false, false, false, false, false, false, false, false, false, false, false, false, false, false, false] rfl rfl (by kernel_rfl) (fun _ _ _ h => h) (Or.inl ⟨by rfl, ?_⟩) ?_ ?_
        rotate_left
        · intro w'
          go_simp
          with_reducible rfl
        rotate_left
        · simp only [Act.put, List.setIfInBounds_toArray, List.set_cons_zero, List.set_cons_succ, i64_w, i32_w]
          rfl
        refine pure_ (i := 2) (N := some 44) (v := ?_) (a' := ?_) #[true, true, true, false, false, false, false, false, false, false, false, false, false, false, false, false, false] rfl rfl (by kernel_rfl) (fun _ _ _ h => h) (Or.inl ⟨by rfl, ?_⟩) ?_ ?_
        rotate_left
        · intro w'
          go_simp
          with_reducible rfl
        rotate_left
        · simp only [Act.put, List.setIfInBounds_toArray, List.set_cons_zero, List.set_cons_succ, i64_w, i32_w]
          rfl
        refine take_ (i := 3) (N := some 45) (v := ?_) (a' := ?_) #[true, true, true, true, false, false, false, false, false, false, false, false, false, false, false, false, false] rfl rfl (by kernel_rfl) (fun _ _ _ h => h) (Or.inl ⟨by rfl, ?_⟩) hHeld ?_ ?_
        rotate_left
        · intro w' s0
          go_simp
          with_reducible rfl
        rotate_left
        · simp only [Act.put, List.setIfInBounds_toArray, List.set_cons_zero, List.set_cons_succ, i64_w, i32_w]
          rfl
        refine pure_ (i := 4) (N := some 46) (v := ?_) (a' := ?_) #[true, true, true, true, true, false, false, false, false, false, false, false, false, false, false, false, false] rfl rfl (by kernel_rfl) (fun _ _ _ h => h) (Or.inl ⟨by rfl, ?_⟩) ?_ ?_
        rotate_left
        · intro w'
          go_simp
          with_reducible rfl
        rotate_left
        · simp only [Act.put, List.setIfInBounds_toArray, List.set_cons_zero, List.set_cons_succ, i64_w, i32_w]
          rfl
        refine pure_ (i := 5) (N := some 47) (v := ?_) (a' := ?_) #[true, true, true, true, true, true, false, false, false, false, false, false, false, false, false, false, false] rfl rfl (by kernel_rfl) (fun _ _ _ h => h) (Or.inl ⟨by rfl, ?_⟩) ?_ ?_
        rotate_left
        · intro w'
          go_simp
          with_reducible rfl
        rotate_left
        · simp only [Act.put, List.setIfInBounds_toArray, List.set_cons_zero, List.set_cons_succ, i64_w, i32_w]
          rfl
        refine pure_ (i := 6) (N := some 48) (v := undef) (a' := ?_) #[true, true, true, true, true, true, true, false, false, false, false, false, false, false, false, false, false] rfl rfl (by kernel_rfl) (fun _ _ _ h => h) (Or.inr ⟨by rfl, rfl⟩) ?_ ?_
        rotate_left
        · simp only [Act.put, List.setIfInBounds_toArray, List.set_cons_zero, List.set_cons_succ, i64_w, i32_w]
          rfl
        refine pure_ (i := 7) (N := some 49) (v := undef) (a' := ?_) #[true, true, true, true, true, true, true, true, false, false, false, false, false, false, false, false, false] rfl rfl (by kernel_rfl) (fun _ _ _ h => h) (Or.inr ⟨by rfl, rfl⟩) ?_ ?_
        rotate_left
        · simp only [Act.put, List.setIfInBounds_toArray, List.set_cons_zero, List.set_cons_succ, i64_w, i32_w]
          rfl
        refine pure_ (i := 8) (N := some 50) (v := undef) (a' := ?_) #[true, true, true, true, true, true, true, true, true, false, false, false, false, false, false, false, false] rfl rfl (by kernel_rfl) (fun _ _ _ h => h) (Or.inr ⟨by rfl, rfl⟩) ?_ ?_
        rotate_left
        · simp only [Act.put, List.setIfInBounds_toArray, List.set_cons_zero, List.set_cons_succ, i64_w, i32_w]
          rfl
        refine pure_ (i := 9) (N := some 51) (v := undef) (a' := ?_) #[true, true, true, true, true, true, true, true, true, true, false, false, false, false, false, false, false] rfl rfl (by kernel_rfl) (fun _ _ _ h => h) (Or.inr ⟨by rfl, rfl⟩) ?_ ?_
        rotate_left
        · simp only [Act.put, List.setIfInBounds_toArray, List.set_cons_zero, List.set_cons_succ, i64_w, i32_w]
          rfl
        refine pure_ (i := 10) (N := some 52) (v := undef) (a' := ?_) #[true, true, true, true, true, true, true, true, true, true, true, false, false, false, false, false, false] rfl rfl (by kernel_rfl) (fun _ _ _ h => h) (Or.inr ⟨by rfl, rfl⟩) ?_ ?_
        rotate_left
        · simp only [Act.put, List.setIfInBounds_toArray, List.set_cons_zero, List.set_cons_succ, i64_w, i32_w]
          rfl
        refine pure_ (i := 11) (N := some 53) (v := undef) (a' := ?_) #[true, true, true, true, true, true, true, true, true, true, true, true, false, false, false, false, false] rfl rfl (by kernel_rfl) (fun _ _ _ h => h) (Or.inr ⟨by rfl, rfl⟩) ?_ ?_
        rotate_left
        · simp only [Act.put, List.setIfInBounds_toArray, List.set_cons_zero, List.set_cons_succ, i64_w, i32_w]
          rfl
        refine pure_ (i := 12) (N := some 54) (v := undef) (a' := ?_) #[true, true, true, true, true, true, true, true, true, true, true, true, true, false, false, false, false] rfl rfl (by kernel_rfl) (fun _ _ _ h => h) (Or.inr ⟨by rfl, rfl⟩) ?_ ?_
        rotate_left
        · simp only [Act.put, List.setIfInBounds_toArray, List.set_cons_zero, List.set_cons_succ, i64_w, i32_w]
          rfl
        refine pure_ (i := 13) (N := some 55) (v := undef) (a' := ?_) #[true, true, true, true, true, true, true, true, true, true, true, true, true, true, false, false, false] rfl rfl (by kernel_rfl) (fun _ _ _ h => h) (Or.inr ⟨by rfl, rfl⟩) ?_ ?_
        rotate_left
        · simp only [Act.put, List.setIfInBounds_toArray, List.set_cons_zero, List.set_cons_succ, i64_w, i32_w]
          rfl
        refine pure_ (i := 14) (N := some 56) (v := undef) (a' := ?_) #[true, true, true, true, true, true, true, true, true, true, true, true, true, true, true, false, false] rfl rfl (by kernel_rfl) (fun _ _ _ h => h) (Or.inr ⟨by rfl, rfl⟩) ?_ ?_
        rotate_left
        · simp only [Act.put, List.setIfInBounds_toArray, List.set_cons_zero, List.set_cons_succ, i64_w, i32_w]
          rfl
        refine pure_ (i := 15) (N := some 57) (v := ?_) (a' := ?_) #[true, true, true, true, true, true, true, true, true, true, true, true, true, true, true, true, false] rfl rfl (by kernel_rfl) (fun _ _ _ h => h) (Or.inl ⟨by rfl, ?_⟩) ?_ ?_
        rotate_left
        · intro w'
          go_simp
          with_reducible rfl
        rotate_left
        · simp only [Act.put, List.setIfInBounds_toArray, List.set_cons_zero, List.set_cons_succ, i64_w, i32_w]
          rfl
        refine pure_ (i := 16) (N := some 2) (v := ?_) (a' := ?_) #[true, true, true, true, true, true, true, true, true, true, true, true, true, true, true, true, true] rfl rfl (by kernel_rfl) (fun _ _ _ h => h) (Or.inl ⟨by rfl, ?_⟩) ?_ ?_
        rotate_left
        · intro w'
          go_simp
          with_reducible rfl
        rotate_left
        · simp only [Act.put, List.setIfInBounds_toArray, List.set_cons_zero, List.set_cons_succ, i64_w, i32_w]
          rfl
        refine done_ (by kernel_rfl) ?_
        go_wp2
        go_ret
        rw [HE.out]
        exact ⟨by rw [HL.out]; rfl, HD5.out, HFD.out⟩
end
end Go.Proofs.YthlbcgaegaoanaaGreatDoor.Cr

namespace Go.Proofs.YthlbcgaegaoanaaGreatDoor.Cr
open Go Go.RowKit Go.Proofs.YthlbcgaegaoanaaGreatDoorW.PrintWords Go.Proofs.YthlbcgaegaoanaaGreatDoorW.PrintLast Go.Proofs.YthlbcgaegaoanaaGreatDoorW.PrintMore Go.Proofs.YthlbcgaegaoanaaGreatDoor.Kinds Go.Proofs.YthlbcgaegaoanaaGreatDoor.Utf Go.Proofs.YthlbcgaegaoanaaGreatDoor.Chk Go.Proofs.YthlbcgaegaoanaaGreatDoor.Rdr
set_option linter.unusedVariables false
set_option linter.unusedSimpArgs false
def inC (i : InV) (pc : List Value) : List Value := .int .i64 i.what :: (pc ++ [.int .i64 i.code, .int .i64 i.err])
section
variable {w w1 : World} {base C F : Nat} {most pat : Int} {s : CoS}
set_option maxRecDepth 100000 in
set_option maxHeartbeats 4000000 in
theorem took_any (h : CoIs w base C F most pat s) (i : InV) (pc : List Value) (hp : kPkt.K w i.p pc) :
    Calls Tryz.prog 49 #[.pointer (some ⟨C, 0, none⟩), .agg (inC i pc).toArray] w fun e w' => e = .returned (.tuple #[]) ∧ CoIs w' base C F most pat (tookP s i) ∧ Fr (fun k => k = C) w w' := by
  obtain ⟨Aw, nw, Ap, np, Am, nm, Aa, na, Ac, nc, Af, nf, hpc, _⟩ := pkt_K hp
  obtain ⟨B, hB⟩ : ∃ B, B = w.heap.size := ⟨_, rfl⟩
  obtain ⟨X, hX⟩ : ∃ X : World, X = w.alloc (.cells (inC i pc).toArray 41) := ⟨_, rfl⟩
  have hbx : Below w.heap.size w X := by rw [hX]; exact below_alloc (Below.refl w.heap.size w) _
  have hB0 : X.heap[B]? = some (.cells (inC i pc).toArray 41 (0, 0)) := by rw [hX, hB]; exact heap_alloc_new w _
  have hx := h.below hbx
  rw [hpc] at hB0
  have y0 : X.cell? ⟨B, 0, none⟩ = some (.int .i64 i.what) := blk_cell hB0 0
  have y1 : X.cell? ⟨B, 1, none⟩ = some (.int .i64 i.p.kind) := blk_cell hB0 1
  have y4 : X.cell? ⟨B, 4, none⟩ = some (.int .i64 i.p.keep) := blk_cell hB0 4
  have x0 : X.cell? ⟨C, 0, none⟩ = some (.int .i64 s.st) := blk_cell hx.self 0
  have HH := Aside0.mk hx
  have HB0 := Aside0.mk hB0
  have HX := Aside0.mk hX
  have HBX := Aside0.mk hbx
  have HF := Aside0.mk (show Fr (fun k => k = C) w X from Fr.of_below _ hbx)
  have HNE := Aside0.mk (show B ≠ C by have := blk_lt h.self; omega)
  have hs : ∀ (j : Nat) (u : Value) (W : World), Fr (fun k => k = C) w W → Fr (fun k => k = C) w (W.setCell ⟨C, j, none⟩ u) := fun j u W hW => hW.setCell (p := ⟨C, j, none⟩) (fun _ => rfl) u
  have HS := Aside0.mk hs
  by_cases h2 : s.st = 2
  · have HE := Aside0.mk (show tookP s i = s by unfold tookP; rw [if_pos h2])
    have t2 : (s.st == 2) = true := by simp [h2]
    clear h hp hpc hX hbx hB0 hx hs h2 y0 y1 y4
    go_enter Tryz.func49, Tryz.ntmps49
    go_upto_region 1 with fail
    refine wp_wld (w2 := X) (by rw [HX.out]) ?_
    clear HX
    rw [← hB]
    clear hB
    go_wp2
    refine bodyPost_ret (results_none rfl _ _ _) rfl ⟨rfl, by rw [HE.out]; exact HH.out, HF.out⟩
  · have t2 : (s.st == 2) = false := by simp [h2]
    by_cases hw : i.what = 1
    · have tw : (i.what != 1) = false := by simp [hw]
      have z4 : X.cell? ⟨C, 4, none⟩ = some (.int .i64 s.silence) := blk_cell hx.self 4
      have zf : X.frozen? ⟨C, 4, none⟩ = false := blk_frozen hx.self 4
      obtain ⟨W5, hW5⟩ : ∃ W5, W5 = X.setCell ⟨C, 4, none⟩ (.int .i64 0) := ⟨_, rfl⟩
      have hc5 : CoIs W5 base C F most pat ⟨s.st, s.fr, s.keep, 0⟩ := by rw [hW5]; exact hx.put (s2 := ⟨s.st, s.fr, s.keep, 0⟩) 4 (.int .i64 0) rfl rfl
      have hf5 : Fr (fun k => k = C) w W5 := by rw [hW5]; exact hs 4 _ X HF.out
      have hB5 : W5.heap[B]? = some (.cells (inC i (pktCells i.p (.slice Aw i.p.will.payload.length nw) (.slice Ap i.p.pass.length np) (.slice Am i.p.msg.payload.length nm) (.slice Aa i.p.asks.length na) (.slice Ac i.p.codes.length nc) (.slice Af i.p.filters.length nf))).toArray 41 (0, 0)) := by rw [hW5]; exact (Below.heap_setCell _ ⟨C, 4, none⟩ _ B HNE.out).trans hB0
      have HC5 := Aside0.mk hc5
      have HF5 := Aside0.mk hf5
      have HW5 := Aside0.mk hW5
      have u0 : W5.cell? ⟨C, 0, none⟩ = some (.int .i64 s.st) := blk_cell hc5.self 0
      have uf : W5.frozen? ⟨C, 0, none⟩ = false := blk_frozen hc5.self 0
      have v1 : W5.cell? ⟨B, 1, none⟩ = some (.int .i64 i.p.kind) := blk_cell hB5 1
      have HV4 := Aside0.mk (show W5.cell? ⟨B, 4, none⟩ = some (.int .i64 i.p.keep) from blk_cell hB5 4)
      by_cases k1 : i.p.kind = 1
      · have HE := Aside0.mk (show tookP s i = ⟨1, s.fr, min (max i.p.keep 0) 65535, 0⟩ by unfold tookP; rw [if_neg h2, if_pos hw, if_pos k1])
        have tk : (i.p.kind == 1) = true := by simp [k1]
        have hq : CoIs (W5.drew.setCell ⟨C, 0, none⟩ (.int .i64 1)) base C F most pat ⟨1, s.fr, s.keep, 0⟩ := (hc5.below (w1 := W5.drew) (below_drew1 (Below.refl _ _))).put (s2 := ⟨1, s.fr, s.keep, 0⟩) 0 (.int .i64 1) rfl rfl
        have HEND := Aside0.mk (hq.put (s2 := ⟨1, s.fr, min (max i.p.keep 0) 65535, 0⟩) 3 (.int .i64 (min (max i.p.keep 0) 65535)) rfl rfl)
        have HFE := Aside0.mk (HS.out 3 (.int .i64 (min (max i.p.keep 0) 65535)) _ (HS.out 0 (.int .i64 1) W5.drew hf5.drew))
        have q3 : W5.cell? ⟨C, 3, none⟩ = some (.int .i64 s.keep) := blk_cell hc5.self 3
        have qf : W5.frozen? ⟨C, 3, none⟩ = false := blk_frozen hc5.self 3
        clear h hp hpc hX hbx hB0 hx hs h2 hw k1 hc5 hf5 hB5 hW5 hq y4
        go_enter Tryz.func49, Tryz.ntmps49
        go_upto_region 1 with fail
        refine wp_wld (w2 := X) (by rw [HX.out]) ?_
        clear HX
        rw [← hB]
        clear hB
        go_upto_region 5 with fail
        refine wp_wld (w2 := W5) (by rw [HW5.out]) ?_
        clear HW5 y0 y1 x0 z4 zf
        have y4 := HV4.out
        go_upto_region 7 with fail
        refine start_ (n := 13) (S := fun w' => w'.cell? ⟨B, 4, none⟩ = some (.int .i64 i.p.keep)) (ds := [12]) #[false, false, false, false, false, false, false, false, false, false, false, false, false] (by kernel_rfl) rfl rfl (y4) (fun hHeld => ?_)
        refine pure_ (i := 0) (N := some 23) (v := ?_) (a' := ?_) #[true, false, false, false, false, false, false, false, false, false, false, false, false] rfl rfl (by kernel_rfl) (fun _ _ _ h => h) (Or.inl ⟨by rfl, ?_⟩) ?_ ?_
        rotate_left
        · intro w'
          go_simp
          with_reducible rfl
        rotate_left
        · simp only [Act.put, List.setIfInBounds_toArray, List.set_cons_zero, List.set_cons_succ, i64_w, i32_w]
          rfl
        refine pure_ (i := 1) (N := some 24) (v := ?_) (a' := ?_) #[true, true, false, false, false, false, false, false, false, false, false, false, false] rfl rfl (by kernel_rfl) (fun _ _ _ h => h) (Or.inl ⟨by rfl, ?_⟩) ?_ ?_
        rotate_left
        · intro w'
          go_simp
          with_reducible rfl
        rotate_left
        · simp only [Act.put, List.setIfInBounds_toArray, List.set_cons_zero, List.set_cons_succ, i64_w, i32_w]
          rfl
        refine pure_ (i := 2) (N := some 25) (v := ?_) (a' := ?_) #[true, true, true, false, false, false, false, false, false, false, false, false, false] rfl rfl (by kernel_rfl) (fun _ _ _ h => h) (Or.inl ⟨by rfl, ?_⟩) ?_ ?_
        rotate_left
        · intro w'
          go_simp
          with_reducible rfl
        rotate_left
        · simp only [Act.put, List.setIfInBounds_toArray, List.set_cons_zero, List.set_cons_succ, i64_w, i32_w]
          rfl
        refine pure_ (i := 3) (N := some 26) (v := ?_) (a' := ?_) #[true, true, true, true, false, false, false, false, false, false, false, false, false] rfl rfl (by kernel_rfl) (fun _ _ _ h => h) (Or.inl ⟨by rfl, ?_⟩) ?_ ?_
        rotate_left
        · intro w'
          go_simp
          with_reducible rfl
        rotate_left
        · simp only [Act.put, List.setIfInBounds_toArray, List.set_cons_zero, List.set_cons_succ, i64_w, i32_w]
          rfl
        refine pure_ (i := 7) (N := some 30) (v := ?_) (a' := ?_) #[true, true, true, true, false, false, false, true, false, false, false, false, false] rfl rfl (by kernel_rfl) (fun _ _ _ h => h) (Or.inl ⟨by rfl, ?_⟩) ?_ ?_
        rotate_left
        · intro w'
          go_simp
          with_reducible rfl
        rotate_left
        · simp only [Act.put, List.setIfInBounds_toArray, List.set_cons_zero, List.set_cons_succ, i64_w, i32_w]
          rfl
        refine pure_ (i := 8) (N := some 31) (v := ?_) (a' := ?_) #[true, true, true, true, false, false, false, true, true, false, false, false, false] rfl rfl (by kernel_rfl) (fun _ _ _ h => h) (Or.inl ⟨by rfl, ?_⟩) ?_ ?_
        rotate_left
        · intro w'
          go_simp
          with_reducible rfl
        rotate_left
        · simp only [Act.put, List.setIfInBounds_toArray, List.set_cons_zero, List.set_cons_succ, i64_w, i32_w]
          rfl
        refine take_ (i := 4) (N := some 27) (v := ?_) (a' := ?_) #[true, true, true, true, true, false, false, true, true, false, false, false, false] rfl rfl (by kernel_rfl) (fun _ _ _ h => h) (Or.inl ⟨by rfl, ?_⟩) hHeld ?_ ?_
        rotate_left
        · intro w' s0
          go_simp
          with_reducible rfl
        rotate_left
        · simp only [Act.put, List.setIfInBounds_toArray, List.set_cons_zero, List.set_cons_succ, i64_w, i32_w]
          rfl
        refine pure_ (i := 5) (N := some 28) (v := ?_) (a' := ?_) #[true, true, true, true, true, true, false, true, true, false, false, false, false] rfl rfl (by kernel_rfl) (fun _ _ _ h => h) (Or.inl ⟨by rfl, ?_⟩) ?_ ?_
        rotate_left
        · intro w'
          go_simp
          with_reducible rfl
        rotate_left
        · simp only [Act.put, List.setIfInBounds_toArray, List.set_cons_zero, List.set_cons_succ, i64_w, i32_w]
          rfl
        refine pure_ (i := 6) (N := some 29) (v := ?_) (a' := ?_) #[true, true, true, true, true, true, true, true, true, false, false, false, false] rfl rfl (by kernel_rfl) (fun _ _ _ h => h) (Or.inl ⟨by rfl, ?_⟩) ?_ ?_
        rotate_left
        · intro w'
          go_simp
          with_reducible rfl
        rotate_left
        · simp only [Act.put, List.setIfInBounds_toArray, List.set_cons_zero, List.set_cons_succ, i64_w, i32_w]
          rfl
        refine one_ (i := 9) (N := none) #[true, true, true, true, true, true, true, true, true, true, false, false, false] rfl rfl (by kernel_rfl) (by decide) (fun K hK => ?_)
        refine skip_ (w1 := ?_) (by rfl) rfl ?_ ?_
        rotate_left
        · go_simp
          rfl
        refine hK.out _ _ ((World.cell?_setCell_other _ _ _ _ (by have := HNE.out; simp; try omega)).trans hHeld) (fun hHeld => ?_)
        clear hK K
        refine pure_ (i := 10) (N := some 32) (v := ?_) (a' := ?_) #[true, true, true, true, true, true, true, true, true, true, true, false, false] rfl rfl (by kernel_rfl) (fun _ _ _ h => h) (Or.inl ⟨by rfl, ?_⟩) ?_ ?_
        rotate_left
        · intro w'
          go_simp
          with_reducible rfl
        rotate_left
        · simp only [Act.put, List.setIfInBounds_toArray, List.set_cons_zero, List.set_cons_succ, i64_w, i32_w]
          rfl
        refine pure_ (i := 11) (N := some 33) (v := ?_) (a' := ?_) #[true, true, true, true, true, true, true, true, true, true, true, true, false] rfl rfl (by kernel_rfl) (fun _ _ _ h => h) (Or.inl ⟨by rfl, ?_⟩) ?_ ?_
        rotate_left
        · intro w'
          go_simp
          with_reducible rfl
        rotate_left
        · simp only [Act.put, List.setIfInBounds_toArray, List.set_cons_zero, List.set_cons_succ, i64_w, i32_w]
          rfl
        refine last_ (i := 12) (N := none) #[true, true, true, true, true, true, true, true, true, true, true, true, true] rfl rfl (by kernel_rfl) (by decide) (fun K hK => ?_)
        refine skip_ (w1 := ?_) (by rfl) rfl ?_ ?_
        rotate_left
        · go_simp
          rfl
        refine hK.out _ _ ?_
        clear hK K
        refine done_ (by kernel_rfl) ?_
        go_wp2
        refine Great.bodyPost_end0 rfl rfl ⟨rfl, by rw [HE.out]; exact HEND.out, HFE.out⟩
      · have tk : (i.p.kind == 1) = false := by simp [k1]
        by_cases k14 : i.p.kind = 14
        · have HE := Aside0.mk (show tookP s i = ⟨2, s.fr, s.keep, 0⟩ by unfold tookP; rw [if_neg h2, if_pos hw, if_neg k1, if_pos k14])
          have tk2 : (i.p.kind == 14) = true := by simp [k14]
          have HEND := Aside0.mk (hc5.put (s2 := ⟨2, s.fr, s.keep, 0⟩) 0 (.int .i64 2) rfl rfl)
          have HFE := Aside0.mk (HS.out 0 (.int .i64 2) W5 hf5)
          clear h hp hpc hX hbx hB0 hx hs h2 hw k1 k14 hc5 hf5 hB5 hW5 y4
          go_enter Tryz.func49, Tryz.ntmps49
          go_upto_region 1 with fail
          refine wp_wld (w2 := X) (by rw [HX.out]) ?_
          clear HX
          rw [← hB]
          clear hB
          go_upto_region 5 with fail
          refine wp_wld (w2 := W5) (by rw [HW5.out]) ?_
          clear HW5 y0 y1 x0 z4 zf
          go_wp2
          refine Great.bodyPost_end0 rfl rfl ⟨rfl, by rw [HE.out]; exact HEND.out, HFE.out⟩
        · have HE := Aside0.mk (show tookP s i = ⟨s.st, s.fr, s.keep, 0⟩ by unfold tookP; rw [if_neg h2, if_pos hw, if_neg k1, if_neg k14])
          have tk2 : (i.p.kind == 14) = false := by simp [k14]
          clear h hp hpc hX hbx hB0 hx hs h2 hw k1 k14 hc5 hf5 hB5 hW5 y4
          go_enter Tryz.func49, Tryz.ntmps49
          go_upto_region 1 with fail
          refine wp_wld (w2 := X) (by rw [HX.out]) ?_
          clear HX
          rw [← hB]
          clear hB
          go_upto_region 5 with fail
          refine wp_wld (w2 := W5) (by rw [HW5.out]) ?_
          clear HW5 y0 y1 x0 z4 zf
          go_wp2
          refine Great.bodyPost_end0 rfl rfl ⟨rfl, by rw [HE.out]; exact HC5.out, HF5.out⟩
    · have HE := Aside0.mk (show tookP s i = ⟨2, s.fr, s.keep, s.silence⟩ by unfold tookP; rw [if_neg h2, if_neg hw])
      have tw : (i.what != 1) = true := by simp [hw]
      have HEND := Aside0.mk (hx.put (s2 := ⟨2, s.fr, s.keep, s.silence⟩) 0 (.int .i64 2) rfl rfl)
      have HFE := Aside0.mk (HS.out 0 (.int .i64 2) X HF.out)
      have xf : X.frozen? ⟨C, 0, none⟩ = false := blk_frozen hx.self 0
      clear h hp hpc hX hbx hB0 hx hs h2 hw y1 y4
      go_enter Tryz.func49, Tryz.ntmps49
      go_upto_region 1 with fail
      refine wp_wld (w2 := X) (by rw [HX.out]) ?_
      clear HX
      rw [← hB]
      clear hB
      go_wp2
      refine bodyPost_ret (results_none rfl _ _ _) rfl ⟨rfl, by rw [HE.out]; exact HEND.out, HFE.out⟩
end
end Go.Proofs.YthlbcgaegaoanaaGreatDoor.Cr

namespace Go.Proofs.YthlbcgaegaoanaaGreatDoor.Cr
open Go Go.RowKit Go.Proofs.YthlbcgaegaoanaaGreatDoorW.PrintWords Go.Proofs.YthlbcgaegaoanaaGreatDoorW.PrintLast Go.Proofs.YthlbcgaegaoanaaGreatDoorW.PrintMore Go.Proofs.YthlbcgaegaoanaaGreatDoor.Kinds Go.Proofs.YthlbcgaegaoanaaGreatDoor.Utf Go.Proofs.YthlbcgaegaoanaaGreatDoor.Chk Go.Proofs.YthlbcgaegaoanaaGreatDoor.Rdr
set_option linter.unusedVariables false
set_option linter.unusedSimpArgs false
theorem inSize : (Tryz.prog.info? 41).map (·.size) = some 28 := by kernel_rfl
def inCells0 : Array Value := (inC noIn noCells.toList).toArray
set_option maxRecDepth 100000 in
theorem judge1_any (x : Int) (w : World) :
    Calls Tryz.prog 84 #[.int .i64 x] w fun e w' => e = .returned (.agg (inC ⟨3, noPkt, 0, x⟩ noCells.toList).toArray) ∧ Below w.heap.size w w' := by
  have HQ := Aside0.mk (heap_alloc_new w (.cells inCells0 41))
  have HB := Aside0.mk (below_alloc (Below.refl w.heap.size w) (.cells inCells0 41))
  obtain ⟨X, hX⟩ : ∃ X : World, X = w.alloc (.cells inCells0 41) := ⟨_, rfl⟩
  rw [← hX] at HQ HB
  have HX := Aside0.mk hX
  clear hX
  go_enter Tryz.func84, Tryz.ntmps84
  go_upto_region 1 with fail
  refine wp_wld (w2 := X) (by rw [HX.out]; rfl) ?_
  clear HX
  go_wp2_with (refine wpList_store_row rfl 41 _ _ rfl w.heap.size _ rfl rfl 41 _ HQ.out inSize rfl (by simp [Value.oneCell']) ?_)
  exact bodyPost_ret (results_block Tryz.results84 rfl (setRow_block HQ.out) Tryz.underlying41 rfl inSize) rfl ⟨rfl, setRow_below HB.out (Nat.le_refl _) _⟩
def inA (i : InV) (pc : List Value) : Value := .agg (inC i (if i.what = 1 then pc else noCells.toList)).toArray
section
variable {w : World} {base C F : Nat} {most pat : Int} {s : CoS}
set_option maxRecDepth 100000 in
set_option maxHeartbeats 4000000 in
theorem judge_c1 (h : CoIs w base C F most pat s) (p : Pkt) (pc : List Value) (hp : kPkt.K w p pc) (k1 : p.kind = 1) (s1 : s.st = 1) :
    Calls Tryz.prog 48 #[.pointer (some ⟨C, 0, none⟩), .agg pc.toArray] w fun e w' => e = .returned (inA (judgeP s.st p) pc) ∧ Below w.heap.size w w' := by
  obtain ⟨Aw, nw, Ap, np, Am, nm, Aa, na, Ac, nc, Af, nf, hpc, _⟩ := pkt_K hp
  subst hpc
  have HE := Aside0.mk (show judgeP s.st p = ⟨3, noPkt, 0, 141⟩ by unfold judgeP; rw [if_pos k1, if_pos s1])
  have t0 : (p.kind == 1) = true := by simp <;> omega
  have t1 : (s.st == 1) = true := by simp <;> omega
  obtain ⟨X, hX⟩ : ∃ X : World, X = (w.alloc (.cells (pktCells p (.slice Aw p.will.payload.length nw) (.slice Ap p.pass.length np) (.slice Am p.msg.payload.length nm) (.slice Aa p.asks.length na) (.slice Ac p.codes.length nc) (.slice Af p.filters.length nf)).toArray 38)).alloc (.cells inCells0 41) := ⟨_, rfl⟩
  have hbx : Below w.heap.size w X := by rw [hX]; exact ((Below.refl _ _).alloc (Nat.le_refl _) _).alloc (by simp) _
  have hP : X.heap[w.heap.size]? = some (.cells (pktCells p (.slice Aw p.will.payload.length nw) (.slice Ap p.pass.length np) (.slice Am p.msg.payload.length nm) (.slice Aa p.asks.length na) (.slice Ac p.codes.length nc) (.slice Af p.filters.length nf)).toArray 38 (0, 0)) := by
    rw [hX]; exact (heap_alloc_old _ _ (by simp)).trans (heap_alloc_new w _)
  have hQ : X.heap[w.heap.size + 1]? = some (.cells inCells0 41 (0, 0)) := by rw [hX]; exact alloc_new2 _ _ _
  have x0 : X.cell? ⟨C, 0, none⟩ = some (.int .i64 s.st) := blk_cell (h.below hbx).self 0
  have y0 : X.cell? ⟨w.heap.size, 0, none⟩ = some (.int .i64 p.kind) := blk_cell hP 0
  have y1 : X.cell? ⟨w.heap.size, 1, none⟩ = some (.int .i64 p.level) := blk_cell hP 1
  have HX := Aside0.mk hX
  have HBX := Aside0.mk hbx
  have HP := Aside0.mk hP
  have HQ := Aside0.mk hQ
  clear h hp hX hbx hP hQ
  go_enter Tryz.func48, Tryz.ntmps48
  go_wp2
  refine wp_scope_straight ?_
  refine wp_wld (w2 := X) (by rw [HX.out]; rfl) ?_
  clear HX
  have HB0 : Aside0 (Below X.heap.size X X) := ⟨Below.refl _ _⟩
  go_wp2_with (first
    | (refine wp_label ?_)
    | (go_at_call 84; (with_reducible refine (judge1_any 141 _).mono ?_); rintro e w1 ⟨rfl, hB⟩; have HB1 := Aside0.mk hB; have HQ1 := Aside0.mk ((hB.block _ (blk_lt HQ.out)).trans HQ.out); clear hB)
    | (refine wpList_store_row rfl 41 _ _ rfl (w.heap.size + 1) _ rfl rfl 41 _ HQ1.out inSize rfl (by simp [inC, noCells, pktCells, noPkt, Value.oneCell']) ?_))
  simp only [Exit.noGoto]
  exact bodyPost_ret (results_block (cs := (inC ⟨3, noPkt, 0, 141⟩ noCells.toList).toArray) Tryz.results48 rfl (setRow_block HQ1.out) Tryz.underlying41 rfl inSize) rfl ⟨by rw [HE.out]; rfl, setRow_below (HBX.out.trans (HB1.out.mono HBX.out.size)) (by omega) _⟩
set_option maxRecDepth 100000 in
set_option maxHeartbeats 4000000 in
theorem judge_c2 (h : CoIs w base C F most pat s) (p : Pkt) (pc : List Value) (hp : kPkt.K w p pc) (k1 : p.kind = 1) (s1 : ¬ s.st = 1) (l4 : p.level = 4) :
    Calls Tryz.prog 48 #[.pointer (some ⟨C, 0, none⟩), .agg pc.toArray] w fun e w' => e = .returned (inA (judgeP s.st p) pc) ∧ Below w.heap.size w w' := by
  obtain ⟨Aw, nw, Ap, np, Am, nm, Aa, na, Ac, nc, Af, nf, hpc, _⟩ := pkt_K hp
  subst hpc
  have HE := Aside0.mk (show judgeP s.st p = ⟨1, p, 0, 0⟩ by unfold judgeP; rw [if_pos k1, if_neg s1, if_pos l4])
  have t0 : (p.kind == 1) = true := by simp <;> omega
  have t1 : (s.st == 1) = false := by simp <;> omega
  have t2 : (p.level != 4) = false := by simp <;> omega
  obtain ⟨X, hX⟩ : ∃ X : World, X = (w.alloc (.cells (pktCells p (.slice Aw p.will.payload.length nw) (.slice Ap p.pass.length np) (.slice Am p.msg.payload.length nm) (.slice Aa p.asks.length na) (.slice Ac p.codes.length nc) (.slice Af p.filters.length nf)).toArray 38)).alloc (.cells inCells0 41) := ⟨_, rfl⟩
  have hbx : Below w.heap.size w X := by rw [hX]; exact ((Below.refl _ _).alloc (Nat.le_refl _) _).alloc (by simp) _
  have hP : X.heap[w.heap.size]? = some (.cells (pktCells p (.slice Aw p.will.payload.length nw) (.slice Ap p.pass.length np) (.slice Am p.msg.payload.length nm) (.slice Aa p.asks.length na) (.slice Ac p.codes.length nc) (.slice Af p.filters.length nf)).toArray 38 (0, 0)) := by
    rw [hX]; exact (heap_alloc_old _ _ (by simp)).trans (heap_alloc_new w _)
  have hQ : X.heap[w.heap.size + 1]? = some (.cells inCells0 41 (0, 0)) := by rw [hX]; exact alloc_new2 _ _ _
  have x0 : X.cell? ⟨C, 0, none⟩ = some (.int .i64 s.st) := blk_cell (h.below hbx).self 0
  have y0 : X.cell? ⟨w.heap.size, 0, none⟩ = some (.int .i64 p.kind) := blk_cell hP 0
  have y1 : X.cell? ⟨w.heap.size, 1, none⟩ = some (.int .i64 p.level) := blk_cell hP 1
  have HX := Aside0.mk hX
  have HBX := Aside0.mk hbx
  have HP := Aside0.mk hP
  have HQ := Aside0.mk hQ
  clear h hp hX hbx hP hQ
  go_enter Tryz.func48, Tryz.ntmps48
  go_wp2
  refine wp_scope_straight ?_
  refine wp_wld (w2 := X) (by rw [HX.out]; rfl) ?_
  clear HX
  obtain ⟨pcx, hpcx⟩ : ∃ pcx : Array Value, pcx = (pktCells p (.slice Aw p.will.payload.length nw) (.slice Ap p.pass.length np) (.slice Am p.msg.payload.length nm) (.slice Aa p.asks.length na) (.slice Ac p.codes.length nc) (.slice Af p.filters.length nf)).toArray := ⟨_, rfl⟩
  obtain ⟨icx, hicx⟩ : ∃ icx : Array Value, icx = (inC ⟨1, p, 0, 0⟩ (pktCells p (.slice Aw p.will.payload.length nw) (.slice Ap p.pass.length np) (.slice Am p.msg.payload.length nm) (.slice Aa p.asks.length na) (.slice Ac p.codes.length nc) (.slice Af p.filters.length nf))).toArray := ⟨_, rfl⟩
  have HBLT := Aside0.mk (show (Tryz.prog).built 41 [(0, .int .i64 1), (1, .agg pcx)] = some icx by rw [hpcx, hicx]; kernel_rfl)
  have HO := Aside0.mk (show icx.all (·.oneCell') = true by rw [hicx]; simp [inC, pktCells, Value.oneCell'])
  have h28 : icx.size = 28 := by rw [hicx]; rfl
  have HSZ := Aside0.mk (show (Tryz.prog.info? 41).map (·.size) = some icx.size by rw [h28]; exact inSize)
  have HS2 := Aside0.mk (show inCells0.size = icx.size by rw [h28]; rfl)
  have h25 : pcx.size = 25 := by rw [hpcx]; rfl
  have HPZ := Aside0.mk (show (Tryz.prog.info? 38).map (·.size) = some pcx.size by rw [h25]; exact pktSize)
  have HPX := Aside0.mk (show X.heap[w.heap.size]? = some (.cells pcx 38 (0, 0)) by rw [hpcx]; exact HP.out)
  have HIC := Aside0.mk hicx
  clear h28 h25 hpcx hicx
  go_wp2_with (first
    | (refine wp_label ?_)
    | (refine wpList_load_row rfl 38 _ rfl w.heap.size rfl 38 _ (0, 0) _ HPX.out Tryz.underlying38 rfl HPZ.out ?_)
    | (refine wpList_buildTo rfl 41 _ rfl (some 38) rfl icx (Eq.trans (b := (Tryz.prog).built 41 [(0, .int .i64 1), (1, .agg pcx)]) (by kernel_rfl) HBLT.out) ?_)
    | (refine wpList_store_row rfl 41 _ _ rfl (w.heap.size + 1) _ rfl rfl 41 _ HQ.out HSZ.out HS2.out HO.out ?_))
  simp only [Exit.noGoto]
  exact bodyPost_ret (results_block (cs := icx) Tryz.results48 rfl (setRow_block HQ.out) Tryz.underlying41 rfl HSZ.out) rfl ⟨by rw [HE.out, HIC.out]; rfl, setRow_below HBX.out (by omega) _⟩
set_option maxRecDepth 100000 in
set_option maxHeartbeats 4000000 in
theorem judge_c3 (h : CoIs w base C F most pat s) (p : Pkt) (pc : List Value) (hp : kPkt.K w p pc) (k1 : p.kind = 1) (s1 : ¬ s.st = 1) (l4 : ¬ p.level = 4) :
    Calls Tryz.prog 48 #[.pointer (some ⟨C, 0, none⟩), .agg pc.toArray] w fun e w' => e = .returned (inA (judgeP s.st p) pc) ∧ Below w.heap.size w w' := by
  obtain ⟨Aw, nw, Ap, np, Am, nm, Aa, na, Ac, nc, Af, nf, hpc, _⟩ := pkt_K hp
  subst hpc
  have HE := Aside0.mk (show judgeP s.st p = ⟨2, noPkt, 1, 0⟩ by unfold judgeP; rw [if_pos k1, if_neg s1, if_neg l4])
  have t0 : (p.kind == 1) = true := by simp <;> omega
  have t1 : (s.st == 1) = false := by simp <;> omega
  have t2 : (p.level != 4) = true := by simp <;> omega
  obtain ⟨X, hX⟩ : ∃ X : World, X = (w.alloc (.cells (pktCells p (.slice Aw p.will.payload.length nw) (.slice Ap p.pass.length np) (.slice Am p.msg.payload.length nm) (.slice Aa p.asks.length na) (.slice Ac p.codes.length nc) (.slice Af p.filters.length nf)).toArray 38)).alloc (.cells inCells0 41) := ⟨_, rfl⟩
  have hbx : Below w.heap.size w X := by rw [hX]; exact ((Below.refl _ _).alloc (Nat.le_refl _) _).alloc (by simp) _
  have hP : X.heap[w.heap.size]? = some (.cells (pktCells p (.slice Aw p.will.payload.length nw) (.slice Ap p.pass.length np) (.slice Am p.msg.payload.length nm) (.slice Aa p.asks.length na) (.slice Ac p.codes.length nc) (.slice Af p.filters.length nf)).toArray 38 (0, 0)) := by
    rw [hX]; exact (heap_alloc_old _ _ (by simp)).trans (heap_alloc_new w _)
  have hQ : X.heap[w.heap.size + 1]? = some (.cells inCells0 41 (0, 0)) := by rw [hX]; exact alloc_new2 _ _ _
  have x0 : X.cell? ⟨C, 0, none⟩ = some (.int .i64 s.st) := blk_cell (h.below hbx).self 0
  have y0 : X.cell? ⟨w.heap.size, 0, none⟩ = some (.int .i64 p.kind) := blk_cell hP 0
  have y1 : X.cell? ⟨w.heap.size, 1, none⟩ = some (.int .i64 p.level) := blk_cell hP 1
  have HX := Aside0.mk hX
  have HBX := Aside0.mk hbx
  have HP := Aside0.mk hP
  have HQ := Aside0.mk hQ
  clear h hp hX hbx hP hQ
  go_enter Tryz.func48, Tryz.ntmps48
  go_wp2
  refine wp_scope_straight ?_
  refine wp_wld (w2 := X) (by rw [HX.out]; rfl) ?_
  clear HX
  go_wp2_with (first
    | (refine wp_label ?_)
    | (refine wpList_store_row rfl 41 _ _ rfl (w.heap.size + 1) _ rfl rfl 41 _ HQ.out inSize rfl (by simp [Value.oneCell']) ?_))
  simp only [Exit.noGoto]
  exact bodyPost_ret (results_block (cs := (inC ⟨2, noPkt, 1, 0⟩ noCells.toList).toArray) Tryz.results48 rfl (setRow_block HQ.out) Tryz.underlying41 rfl inSize) rfl ⟨by rw [HE.out]; rfl, setRow_below HBX.out (by omega) _⟩
set_option maxRecDepth 100000 in
set_option maxHeartbeats 4000000 in
theorem judge_o1 (h : CoIs w base C F most pat s) (p : Pkt) (pc : List Value) (hp : kPkt.K w p pc) (k1 : ¬ p.kind = 1) (s0 : s.st = 0) :
    Calls Tryz.prog 48 #[.pointer (some ⟨C, 0, none⟩), .agg pc.toArray] w fun e w' => e = .returned (inA (judgeP s.st p) pc) ∧ Below w.heap.size w w' := by
  obtain ⟨Aw, nw, Ap, np, Am, nm, Aa, na, Ac, nc, Af, nf, hpc, _⟩ := pkt_K hp
  subst hpc
  have HE := Aside0.mk (show judgeP s.st p = ⟨3, noPkt, 0, 140⟩ by unfold judgeP; rw [if_neg k1, if_pos s0])
  have t0 : (p.kind == 1) = false := by simp <;> omega
  have t1 : (s.st == 0) = true := by simp <;> omega
  obtain ⟨X, hX⟩ : ∃ X : World, X = (w.alloc (.cells (pktCells p (.slice Aw p.will.payload.length nw) (.slice Ap p.pass.length np) (.slice Am p.msg.payload.length nm) (.slice Aa p.asks.length na) (.slice Ac p.codes.length nc) (.slice Af p.filters.length nf)).toArray 38)).alloc (.cells inCells0 41) := ⟨_, rfl⟩
  have hbx : Below w.heap.size w X := by rw [hX]; exact ((Below.refl _ _).alloc (Nat.le_refl _) _).alloc (by simp) _
  have hP : X.heap[w.heap.size]? = some (.cells (pktCells p (.slice Aw p.will.payload.length nw) (.slice Ap p.pass.length np) (.slice Am p.msg.payload.length nm) (.slice Aa p.asks.length na) (.slice Ac p.codes.length nc) (.slice Af p.filters.length nf)).toArray 38 (0, 0)) := by
    rw [hX]; exact (heap_alloc_old _ _ (by simp)).trans (heap_alloc_new w _)
  have hQ : X.heap[w.heap.size + 1]? = some (.cells inCells0 41 (0, 0)) := by rw [hX]; exact alloc_new2 _ _ _
  have x0 : X.cell? ⟨C, 0, none⟩ = some (.int .i64 s.st) := blk_cell (h.below hbx).self 0
  have y0 : X.cell? ⟨w.heap.size, 0, none⟩ = some (.int .i64 p.kind) := blk_cell hP 0
  have y1 : X.cell? ⟨w.heap.size, 1, none⟩ = some (.int .i64 p.level) := blk_cell hP 1
  have HX := Aside0.mk hX
  have HBX := Aside0.mk hbx
  have HP := Aside0.mk hP
  have HQ := Aside0.mk hQ
  clear h hp hX hbx hP hQ
  go_enter Tryz.func48, Tryz.ntmps48
  go_wp2
  refine wp_scope_straight ?_
  refine wp_wld (w2 := X) (by rw [HX.out]; rfl) ?_
  clear HX
  have HB0 : Aside0 (Below X.heap.size X X) := ⟨Below.refl _ _⟩
  go_wp2_with (first
    | (refine wp_label ?_)
    | (go_at_call 84; (with_reducible refine (judge1_any 140 _).mono ?_); rintro e w1 ⟨rfl, hB⟩; have HB1 := Aside0.mk hB; have HQ1 := Aside0.mk ((hB.block _ (blk_lt HQ.out)).trans HQ.out); clear hB)
    | (refine wpList_store_row rfl 41 _ _ rfl (w.heap.size + 1) _ rfl rfl 41 _ HQ1.out inSize rfl (by simp [inC, noCells, pktCells, noPkt, Value.oneCell']) ?_))
  simp only [Exit.noGoto]
  exact bodyPost_ret (results_block (cs := (inC ⟨3, noPkt, 0, 140⟩ noCells.toList).toArray) Tryz.results48 rfl (setRow_block HQ1.out) Tryz.underlying41 rfl inSize) rfl ⟨by rw [HE.out]; rfl, setRow_below (HBX.out.trans (HB1.out.mono HBX.out.size)) (by omega) _⟩
set_option maxRecDepth 100000 in
set_option maxHeartbeats 4000000 in
theorem judge_o2 (h : CoIs w base C F most pat s) (p : Pkt) (pc : List Value) (hp : kPkt.K w p pc) (k1 : ¬ p.kind = 1) (s0 : ¬ s.st = 0) (kk : ¬ (p.kind = 2 ∨ p.kind = 9 ∨ p.kind = 11 ∨ p.kind = 13)) :
    Calls Tryz.prog 48 #[.pointer (some ⟨C, 0, none⟩), .agg pc.toArray] w fun e w' => e = .returned (inA (judgeP s.st p) pc) ∧ Below w.heap.size w w' := by
  obtain ⟨Aw, nw, Ap, np, Am, nm, Aa, na, Ac, nc, Af, nf, hpc, _⟩ := pkt_K hp
  subst hpc
  have HE := Aside0.mk (show judgeP s.st p = ⟨1, p, 0, 0⟩ by unfold judgeP; rw [if_neg k1, if_neg s0, if_neg kk])
  have t0 : (p.kind == 1) = false := by simp <;> omega
  have t1 : (s.st == 0) = false := by simp <;> omega
  have t2 : (p.kind == 2) = false := by simp <;> omega
  have t3 : (p.kind == 9) = false := by simp <;> omega
  have t4 : (p.kind == 11) = false := by simp <;> omega
  have t5 : (p.kind == 13) = false := by simp <;> omega
  obtain ⟨X, hX⟩ : ∃ X : World, X = (w.alloc (.cells (pktCells p (.slice Aw p.will.payload.length nw) (.slice Ap p.pass.length np) (.slice Am p.msg.payload.length nm) (.slice Aa p.asks.length na) (.slice Ac p.codes.length nc) (.slice Af p.filters.length nf)).toArray 38)).alloc (.cells inCells0 41) := ⟨_, rfl⟩
  have hbx : Below w.heap.size w X := by rw [hX]; exact ((Below.refl _ _).alloc (Nat.le_refl _) _).alloc (by simp) _
  have hP : X.heap[w.heap.size]? = some (.cells (pktCells p (.slice Aw p.will.payload.length nw) (.slice Ap p.pass.length np) (.slice Am p.msg.payload.length nm) (.slice Aa p.asks.length na) (.slice Ac p.codes.length nc) (.slice Af p.filters.length nf)).toArray 38 (0, 0)) := by
    rw [hX]; exact (heap_alloc_old _ _ (by simp)).trans (heap_alloc_new w _)
  have hQ : X.heap[w.heap.size + 1]? = some (.cells inCells0 41 (0, 0)) := by rw [hX]; exact alloc_new2 _ _ _
  have x0 : X.cell? ⟨C, 0, none⟩ = some (.int .i64 s.st) := blk_cell (h.below hbx).self 0
  have y0 : X.cell? ⟨w.heap.size, 0, none⟩ = some (.int .i64 p.kind) := blk_cell hP 0
  have y1 : X.cell? ⟨w.heap.size, 1, none⟩ = some (.int .i64 p.level) := blk_cell hP 1
  have HX := Aside0.mk hX
  have HBX := Aside0.mk hbx
  have HP := Aside0.mk hP
  have HQ := Aside0.mk hQ
  clear h hp hX hbx hP hQ
  go_enter Tryz.func48, Tryz.ntmps48
  go_wp2
  refine wp_scope_straight ?_
  refine wp_wld (w2 := X) (by rw [HX.out]; rfl) ?_
  clear HX
  obtain ⟨pcx, hpcx⟩ : ∃ pcx : Array Value, pcx = (pktCells p (.slice Aw p.will.payload.length nw) (.slice Ap p.pass.length np) (.slice Am p.msg.payload.length nm) (.slice Aa p.asks.length na) (.slice Ac p.codes.length nc) (.slice Af p.filters.length nf)).toArray := ⟨_, rfl⟩
  obtain ⟨icx, hicx⟩ : ∃ icx : Array Value, icx = (inC ⟨1, p, 0, 0⟩ (pktCells p (.slice Aw p.will.payload.length nw) (.slice Ap p.pass.length np) (.slice Am p.msg.payload.length nm) (.slice Aa p.asks.length na) (.slice Ac p.codes.length nc) (.slice Af p.filters.length nf))).toArray := ⟨_, rfl⟩
  have HBLT := Aside0.mk (show (Tryz.prog).built 41 [(0, .int .i64 1), (1, .agg pcx)] = some icx by rw [hpcx, hicx]; kernel_rfl)
  have HO := Aside0.mk (show icx.all (·.oneCell') = true by rw [hicx]; simp [inC, pktCells, Value.oneCell'])
  have h28 : icx.size = 28 := by rw [hicx]; rfl
  have HSZ := Aside0.mk (show (Tryz.prog.info? 41).map (·.size) = some icx.size by rw [h28]; exact inSize)
  have HS2 := Aside0.mk (show inCells0.size = icx.size by rw [h28]; rfl)
  have h25 : pcx.size = 25 := by rw [hpcx]; rfl
  have HPZ := Aside0.mk (show (Tryz.prog.info? 38).map (·.size) = some pcx.size by rw [h25]; exact pktSize)
  have HPX := Aside0.mk (show X.heap[w.heap.size]? = some (.cells pcx 38 (0, 0)) by rw [hpcx]; exact HP.out)
  have HIC := Aside0.mk hicx
  clear h28 h25 hpcx hicx
  go_wp2_with (first
    | (refine wp_label ?_)
    | (refine wpList_load_row rfl 38 _ rfl w.heap.size rfl 38 _ (0, 0) _ HPX.out Tryz.underlying38 rfl HPZ.out ?_)
    | (refine wpList_buildTo rfl 41 _ rfl (some 38) rfl icx (Eq.trans (b := (Tryz.prog).built 41 [(0, .int .i64 1), (1, .agg pcx)]) (by kernel_rfl) HBLT.out) ?_)
    | (refine wpList_store_row rfl 41 _ _ rfl (w.heap.size + 1) _ rfl rfl 41 _ HQ.out HSZ.out HS2.out HO.out ?_))
  simp only [Exit.noGoto]
  exact bodyPost_ret (results_block (cs := icx) Tryz.results48 rfl (setRow_block HQ.out) Tryz.underlying41 rfl HSZ.out) rfl ⟨by rw [HE.out, HIC.out]; rfl, setRow_below HBX.out (by omega) _⟩
set_option maxRecDepth 100000 in
set_option maxHeartbeats 4000000 in
theorem judge_b2 (h : CoIs w base C F most pat s) (p : Pkt) (pc : List Value) (hp : kPkt.K w p pc) (kk : p.kind = 2) (s0 : ¬ s.st = 0) :
    Calls Tryz.prog 48 #[.pointer (some ⟨C, 0, none⟩), .agg pc.toArray] w fun e w' => e = .returned (inA (judgeP s.st p) pc) ∧ Below w.heap.size w w' := by
  obtain ⟨Aw, nw, Ap, np, Am, nm, Aa, na, Ac, nc, Af, nf, hpc, _⟩ := pkt_K hp
  subst hpc
  have HE := Aside0.mk (show judgeP s.st p = ⟨3, noPkt, 0, 142⟩ by unfold judgeP; rw [if_neg (by omega), if_neg s0, if_pos (by omega)])
  have t0 : (p.kind == 1) = false := by simp <;> omega
  have t1 : (s.st == 0) = false := by simp <;> omega
  have t2 : (p.kind == 2) = true := by simp <;> omega
  have t3 : (p.kind == 9) = false := by simp <;> omega
  have t4 : (p.kind == 11) = false := by simp <;> omega
  have t5 : (p.kind == 13) = false := by simp <;> omega
  obtain ⟨X, hX⟩ : ∃ X : World, X = (w.alloc (.cells (pktCells p (.slice Aw p.will.payload.length nw) (.slice Ap p.pass.length np) (.slice Am p.msg.payload.length nm) (.slice Aa p.asks.length na) (.slice Ac p.codes.length nc) (.slice Af p.filters.length nf)).toArray 38)).alloc (.cells inCells0 41) := ⟨_, rfl⟩
  have hbx : Below w.heap.size w X := by rw [hX]; exact ((Below.refl _ _).alloc (Nat.le_refl _) _).alloc (by simp) _
  have hP : X.heap[w.heap.size]? = some (.cells (pktCells p (.slice Aw p.will.payload.length nw) (.slice Ap p.pass.length np) (.slice Am p.msg.payload.length nm) (.slice Aa p.asks.length na) (.slice Ac p.codes.length nc) (.slice Af p.filters.length nf)).toArray 38 (0, 0)) := by
    rw [hX]; exact (heap_alloc_old _ _ (by simp)).trans (heap_alloc_new w _)
  have hQ : X.heap[w.heap.size + 1]? = some (.cells inCells0 41 (0, 0)) := by rw [hX]; exact alloc_new2 _ _ _
  have x0 : X.cell? ⟨C, 0, none⟩ = some (.int .i64 s.st) := blk_cell (h.below hbx).self 0
  have y0 : X.cell? ⟨w.heap.size, 0, none⟩ = some (.int .i64 p.kind) := blk_cell hP 0
  have y1 : X.cell? ⟨w.heap.size, 1, none⟩ = some (.int .i64 p.level) := blk_cell hP 1
  have HX := Aside0.mk hX
  have HBX := Aside0.mk hbx
  have HP := Aside0.mk hP
  have HQ := Aside0.mk hQ
  clear h hp hX hbx hP hQ
  go_enter Tryz.func48, Tryz.ntmps48
  go_wp2
  refine wp_scope_straight ?_
  refine wp_wld (w2 := X) (by rw [HX.out]; rfl) ?_
  clear HX
  have HB0 : Aside0 (Below X.heap.size X X) := ⟨Below.refl _ _⟩
  go_wp2_with (first
    | (refine wp_label ?_)
    | (go_at_call 84; (with_reducible refine (judge1_any 142 _).mono ?_); rintro e w1 ⟨rfl, hB⟩; have HB1 := Aside0.mk hB; have HQ1 := Aside0.mk ((hB.block _ (blk_lt HQ.out)).trans HQ.out); clear hB)
    | (refine wpList_store_row rfl 41 _ _ rfl (w.heap.size + 1) _ rfl rfl 41 _ HQ1.out inSize rfl (by simp [inC, noCells, pktCells, noPkt, Value.oneCell']) ?_))
  simp only [Exit.noGoto]
  exact bodyPost_ret (results_block (cs := (inC ⟨3, noPkt, 0, 142⟩ noCells.toList).toArray) Tryz.results48 rfl (setRow_block HQ1.out) Tryz.underlying41 rfl inSize) rfl ⟨by rw [HE.out]; rfl, setRow_below (HBX.out.trans (HB1.out.mono HBX.out.size)) (by omega) _⟩
set_option maxRecDepth 100000 in
set_option maxHeartbeats 4000000 in
theorem judge_b9 (h : CoIs w base C F most pat s) (p : Pkt) (pc : List Value) (hp : kPkt.K w p pc) (kk : p.kind = 9) (s0 : ¬ s.st = 0) :
    Calls Tryz.prog 48 #[.pointer (some ⟨C, 0, none⟩), .agg pc.toArray] w fun e w' => e = .returned (inA (judgeP s.st p) pc) ∧ Below w.heap.size w w' := by
  obtain ⟨Aw, nw, Ap, np, Am, nm, Aa, na, Ac, nc, Af, nf, hpc, _⟩ := pkt_K hp
  subst hpc
  have HE := Aside0.mk (show judgeP s.st p = ⟨3, noPkt, 0, 142⟩ by unfold judgeP; rw [if_neg (by omega), if_neg s0, if_pos (by omega)])
  have t0 : (p.kind == 1) = false := by simp <;> omega
  have t1 : (s.st == 0) = false := by simp <;> omega
  have t2 : (p.kind == 2) = false := by simp <;> omega
  have t3 : (p.kind == 9) = true := by simp <;> omega
  have t4 : (p.kind == 11) = false := by simp <;> omega
  have t5 : (p.kind == 13) = false := by simp <;> omega
  obtain ⟨X, hX⟩ : ∃ X : World, X = (w.alloc (.cells (pktCells p (.slice Aw p.will.payload.length nw) (.slice Ap p.pass.length np) (.slice Am p.msg.payload.length nm) (.slice Aa p.asks.length na) (.slice Ac p.codes.length nc) (.slice Af p.filters.length nf)).toArray 38)).alloc (.cells inCells0 41) := ⟨_, rfl⟩
  have hbx : Below w.heap.size w X := by rw [hX]; exact ((Below.refl _ _).alloc (Nat.le_refl _) _).alloc (by simp) _
  have hP : X.heap[w.heap.size]? = some (.cells (pktCells p (.slice Aw p.will.payload.length nw) (.slice Ap p.pass.length np) (.slice Am p.msg.payload.length nm) (.slice Aa p.asks.length na) (.slice Ac p.codes.length nc) (.slice Af p.filters.length nf)).toArray 38 (0, 0)) := by
    rw [hX]; exact (heap_alloc_old _ _ (by simp)).trans (heap_alloc_new w _)
  have hQ : X.heap[w.heap.size + 1]? = some (.cells inCells0 41 (0, 0)) := by rw [hX]; exact alloc_new2 _ _ _
  have x0 : X.cell? ⟨C, 0, none⟩ = some (.int .i64 s.st) := blk_cell (h.below hbx).self 0
  have y0 : X.cell? ⟨w.heap.size, 0, none⟩ = some (.int .i64 p.kind) := blk_cell hP 0
  have y1 : X.cell? ⟨w.heap.size, 1, none⟩ = some (.int .i64 p.level) := blk_cell hP 1
  have HX := Aside0.mk hX
  have HBX := Aside0.mk hbx
  have HP := Aside0.mk hP
  have HQ := Aside0.mk hQ
  clear h hp hX hbx hP hQ
  go_enter Tryz.func48, Tryz.ntmps48
  go_wp2
  refine wp_scope_straight ?_
  refine wp_wld (w2 := X) (by rw [HX.out]; rfl) ?_
  clear HX
  have HB0 : Aside0 (Below X.heap.size X X) := ⟨Below.refl _ _⟩
  go_wp2_with (first
    | (refine wp_label ?_)
    | (go_at_call 84; (with_reducible refine (judge1_any 142 _).mono ?_); rintro e w1 ⟨rfl, hB⟩; have HB1 := Aside0.mk hB; have HQ1 := Aside0.mk ((hB.block _ (blk_lt HQ.out)).trans HQ.out); clear hB)
    | (refine wpList_store_row rfl 41 _ _ rfl (w.heap.size + 1) _ rfl rfl 41 _ HQ1.out inSize rfl (by simp [inC, noCells, pktCells, noPkt, Value.oneCell']) ?_))
  simp only [Exit.noGoto]
  exact bodyPost_ret (results_block (cs := (inC ⟨3, noPkt, 0, 142⟩ noCells.toList).toArray) Tryz.results48 rfl (setRow_block HQ1.out) Tryz.underlying41 rfl inSize) rfl ⟨by rw [HE.out]; rfl, setRow_below (HBX.out.trans (HB1.out.mono HBX.out.size)) (by omega) _⟩
set_option maxRecDepth 100000 in
set_option maxHeartbeats 4000000 in
theorem judge_b11 (h : CoIs w base C F most pat s) (p : Pkt) (pc : List Value) (hp : kPkt.K w p pc) (kk : p.kind = 11) (s0 : ¬ s.st = 0) :
    Calls Tryz.prog 48 #[.pointer (some ⟨C, 0, none⟩), .agg pc.toArray] w fun e w' => e = .returned (inA (judgeP s.st p) pc) ∧ Below w.heap.size w w' := by
  obtain ⟨Aw, nw, Ap, np, Am, nm, Aa, na, Ac, nc, Af, nf, hpc, _⟩ := pkt_K hp
  subst hpc
  have HE := Aside0.mk (show judgeP s.st p = ⟨3, noPkt, 0, 142⟩ by unfold judgeP; rw [if_neg (by omega), if_neg s0, if_pos (by omega)])
  have t0 : (p.kind == 1) = false := by simp <;> omega
  have t1 : (s.st == 0) = false := by simp <;> omega
  have t2 : (p.kind == 2) = false := by simp <;> omega
  have t3 : (p.kind == 9) = false := by simp <;> omega
  have t4 : (p.kind == 11) = true := by simp <;> omega
  have t5 : (p.kind == 13) = false := by simp <;> omega
  obtain ⟨X, hX⟩ : ∃ X : World, X = (w.alloc (.cells (pktCells p (.slice Aw p.will.payload.length nw) (.slice Ap p.pass.length np) (.slice Am p.msg.payload.length nm) (.slice Aa p.asks.length na) (.slice Ac p.codes.length nc) (.slice Af p.filters.length nf)).toArray 38)).alloc (.cells inCells0 41) := ⟨_, rfl⟩
  have hbx : Below w.heap.size w X := by rw [hX]; exact ((Below.refl _ _).alloc (Nat.le_refl _) _).alloc (by simp) _
  have hP : X.heap[w.heap.size]? = some (.cells (pktCells p (.slice Aw p.will.payload.length nw) (.slice Ap p.pass.length np) (.slice Am p.msg.payload.length nm) (.slice Aa p.asks.length na) (.slice Ac p.codes.length nc) (.slice Af p.filters.length nf)).toArray 38 (0, 0)) := by
    rw [hX]; exact (heap_alloc_old _ _ (by simp)).trans (heap_alloc_new w _)
  have hQ : X.heap[w.heap.size + 1]? = some (.cells inCells0 41 (0, 0)) := by rw [hX]; exact alloc_new2 _ _ _
  have x0 : X.cell? ⟨C, 0, none⟩ = some (.int .i64 s.st) := blk_cell (h.below hbx).self 0
  have y0 : X.cell? ⟨w.heap.size, 0, none⟩ = some (.int .i64 p.kind) := blk_cell hP 0
  have y1 : X.cell? ⟨w.heap.size, 1, none⟩ = some (.int .i64 p.level) := blk_cell hP 1
  have HX := Aside0.mk hX
  have HBX := Aside0.mk hbx
  have HP := Aside0.mk hP
  have HQ := Aside0.mk hQ
  clear h hp hX hbx hP hQ
  go_enter Tryz.func48, Tryz.ntmps48
  go_wp2
  refine wp_scope_straight ?_
  refine wp_wld (w2 := X) (by rw [HX.out]; rfl) ?_
  clear HX
  have HB0 : Aside0 (Below X.heap.size X X) := ⟨Below.refl _ _⟩
  go_wp2_with (first
    | (refine wp_label ?_)
    | (go_at_call 84; (with_reducible refine (judge1_any 142 _).mono ?_); rintro e w1 ⟨rfl, hB⟩; have HB1 := Aside0.mk hB; have HQ1 := Aside0.mk ((hB.block _ (blk_lt HQ.out)).trans HQ.out); clear hB)
    | (refine wpList_store_row rfl 41 _ _ rfl (w.heap.size + 1) _ rfl rfl 41 _ HQ1.out inSize rfl (by simp [inC, noCells, pktCells, noPkt, Value.oneCell']) ?_))
  simp only [Exit.noGoto]
  exact bodyPost_ret (results_block (cs := (inC ⟨3, noPkt, 0, 142⟩ noCells.toList).toArray) Tryz.results48 rfl (setRow_block HQ1.out) Tryz.underlying41 rfl inSize) rfl ⟨by rw [HE.out]; rfl, setRow_below (HBX.out.trans (HB1.out.mono HBX.out.size)) (by omega) _⟩
set_option maxRecDepth 100000 in
set_option maxHeartbeats 4000000 in
theorem judge_b13 (h : CoIs w base C F most pat s) (p : Pkt) (pc : List Value) (hp : kPkt.K w p pc) (kk : p.kind = 13) (s0 : ¬ s.st = 0) :
    Calls Tryz.prog 48 #[.pointer (some ⟨C, 0, none⟩), .agg pc.toArray] w fun e w' => e = .returned (inA (judgeP s.st p) pc) ∧ Below w.heap.size w w' := by
  obtain ⟨Aw, nw, Ap, np, Am, nm, Aa, na, Ac, nc, Af, nf, hpc, _⟩ := pkt_K hp
  subst hpc
  have HE := Aside0.mk (show judgeP s.st p = ⟨3, noPkt, 0, 142⟩ by unfold judgeP; rw [if_neg (by omega), if_neg s0, if_pos (by omega)])
  have t0 : (p.kind == 1) = false := by simp <;> omega
  have t1 : (s.st == 0) = false := by simp <;> omega
  have t2 : (p.kind == 2) = false := by simp <;> omega
  have t3 : (p.kind == 9) = false := by simp <;> omega
  have t4 : (p.kind == 11) = false := by simp <;> omega
  have t5 : (p.kind == 13) = true := by simp <;> omega
  obtain ⟨X, hX⟩ : ∃ X : World, X = (w.alloc (.cells (pktCells p (.slice Aw p.will.payload.length nw) (.slice Ap p.pass.length np) (.slice Am p.msg.payload.length nm) (.slice Aa p.asks.length na) (.slice Ac p.codes.length nc) (.slice Af p.filters.length nf)).toArray 38)).alloc (.cells inCells0 41) := ⟨_, rfl⟩
  have hbx : Below w.heap.size w X := by rw [hX]; exact ((Below.refl _ _).alloc (Nat.le_refl _) _).alloc (by simp) _
  have hP : X.heap[w.heap.size]? = some (.cells (pktCells p (.slice Aw p.will.payload.length nw) (.slice Ap p.pass.length np) (.slice Am p.msg.payload.length nm) (.slice Aa p.asks.length na) (.slice Ac p.codes.length nc) (.slice Af p.filters.length nf)).toArray 38 (0, 0)) := by
    rw [hX]; exact (heap_alloc_old _ _ (by simp)).trans (heap_alloc_new w _)
  have hQ : X.heap[w.heap.size + 1]? = some (.cells inCells0 41 (0, 0)) := by rw [hX]; exact alloc_new2 _ _ _
  have x0 : X.cell? ⟨C, 0, none⟩ = some (.int .i64 s.st) := blk_cell (h.below hbx).self 0
  have y0 : X.cell? ⟨w.heap.size, 0, none⟩ = some (.int .i64 p.kind) := blk_cell hP 0
  have y1 : X.cell? ⟨w.heap.size, 1, none⟩ = some (.int .i64 p.level) := blk_cell hP 1
  have HX := Aside0.mk hX
  have HBX := Aside0.mk hbx
  have HP := Aside0.mk hP
  have HQ := Aside0.mk hQ
  clear h hp hX hbx hP hQ
  go_enter Tryz.func48, Tryz.ntmps48
  go_wp2
  refine wp_scope_straight ?_
  refine wp_wld (w2 := X) (by rw [HX.out]; rfl) ?_
  clear HX
  have HB0 : Aside0 (Below X.heap.size X X) := ⟨Below.refl _ _⟩
  go_wp2_with (first
    | (refine wp_label ?_)
    | (go_at_call 84; (with_reducible refine (judge1_any 142 _).mono ?_); rintro e w1 ⟨rfl, hB⟩; have HB1 := Aside0.mk hB; have HQ1 := Aside0.mk ((hB.block _ (blk_lt HQ.out)).trans HQ.out); clear hB)
    | (refine wpList_store_row rfl 41 _ _ rfl (w.heap.size + 1) _ rfl rfl 41 _ HQ1.out inSize rfl (by simp [inC, noCells, pktCells, noPkt, Value.oneCell']) ?_))
  simp only [Exit.noGoto]
  exact bodyPost_ret (results_block (cs := (inC ⟨3, noPkt, 0, 142⟩ noCells.toList).toArray) Tryz.results48 rfl (setRow_block HQ1.out) Tryz.underlying41 rfl inSize) rfl ⟨by rw [HE.out]; rfl, setRow_below (HBX.out.trans (HB1.out.mono HBX.out.size)) (by omega) _⟩
theorem judge_any (h : CoIs w base C F most pat s) (p : Pkt) (pc : List Value) (hp : kPkt.K w p pc) :
    Calls Tryz.prog 48 #[.pointer (some ⟨C, 0, none⟩), .agg pc.toArray] w fun e w' => e = .returned (inA (judgeP s.st p) pc) ∧ Below w.heap.size w w' := by
  by_cases k1 : p.kind = 1
  · by_cases s1 : s.st = 1
    · exact judge_c1 h p pc hp k1 s1
    · by_cases l4 : p.level = 4
      · exact judge_c2 h p pc hp k1 s1 l4
      · exact judge_c3 h p pc hp k1 s1 l4
  · by_cases s0 : s.st = 0
    · exact judge_o1 h p pc hp k1 s0
    · by_cases kk : p.kind = 2 ∨ p.kind = 9 ∨ p.kind = 11 ∨ p.kind = 13
      · rcases kk with kk | kk | kk | kk
        · exact judge_b2 h p pc hp kk s0
        · exact judge_b9 h p pc hp kk s0
        · exact judge_b11 h p pc hp kk s0
        · exact judge_b13 h p pc hp kk s0
      · exact judge_o2 h p pc hp k1 s0 kk
end
end Go.Proofs.YthlbcgaegaoanaaGreatDoor.Cr

namespace Go.Proofs.YthlbcgaegaoanaaGreatDoor.Cr
open Go Go.RowKit Go.Proofs.YthlbcgaegaoanaaGreatDoorW.PrintWords Go.Proofs.YthlbcgaegaoanaaGreatDoorW.PrintLast Go.Proofs.YthlbcgaegaoanaaGreatDoorW.PrintMore Go.Proofs.YthlbcgaegaoanaaGreatDoor.Kinds Go.Proofs.YthlbcgaegaoanaaGreatDoor.Utf Go.Proofs.YthlbcgaegaoanaaGreatDoor.Chk Go.Proofs.YthlbcgaegaoanaaGreatDoor.Rdr
set_option linter.unusedVariables false
set_option linter.unusedSimpArgs false
def kIn : Kd InV := Kd.iso (Kd.pair (Kd.int .i64) (Kd.pair kPkt (Kd.pair (Kd.int .i64) (Kd.int .i64)))) (fun x : InV => (x.what, x.p, x.code, x.err))
theorem in_M_mk {w : World} {base : Nat} {ok : Nat → Prop} {i : InV} {pc : List Value} (h : kPkt.M w base ok i.p pc) : kIn.M w base ok i (inC i pc) :=
  ⟨[_], _, rfl, rfl, pc, _, rfl, h, [_], [_], rfl, rfl, rfl⟩
theorem in_M {w : World} {base : Nat} {ok : Nat → Prop} {i : InV} {cs : List Value} (h : kIn.M w base ok i cs) : ∃ pc, cs = inC i pc ∧ kPkt.M w base ok i.p pc := by
  obtain ⟨c0, c1, rfl, h0, pc, c2, rfl, hp, c3, c4, rfl, h3, h4⟩ := h
  have h0' : c0 = [.int .i64 i.what] := h0
  have h3' : c3 = [.int .i64 i.code] := h3
  have h4' : c4 = [.int .i64 i.err] := h4
  subst h0' h3' h4'
  exact ⟨pc, rfl, hp⟩
theorem in_K {w : World} {i : InV} {cs : List Value} (h : kIn.K w i cs) : ∃ pc, cs = inC i pc ∧ kPkt.K w i.p pc := by
  obtain ⟨c0, c1, rfl, h0, pc, c2, rfl, hp, c3, c4, rfl, h3, h4⟩ := h
  have h0' : c0 = [.int .i64 i.what] := h0
  have h3' : c3 = [.int .i64 i.code] := h3
  have h4' : c4 = [.int .i64 i.err] := h4
  subst h0' h3' h4'
  exact ⟨pc, rfl, hp⟩
def CoNextAt (w w' : World) (base C F : Nat) (most pat : Int) (e : Ending) (r : CA × CoS) : Prop :=
  ∃ (cs : List Value), e = .returned (.tuple #[.agg cs.toArray, .bool r.1.ok]) ∧ kIn.M w' w.heap.size (fun _ => True) r.1.i cs ∧ CoIs w' base C F most pat r.2 ∧ Fr (okC C F) w w'
theorem results_next {P : Program} {fn : Func} {tmps : Array Value} {w : World} {k a : Nat} {t : TypeId} {g : Nat} {cs : Array Value} {d : TypeDesc} (hr : fn.results = #[.cell k t, .tmp a]) (hp : tmps.getD k undef = .pointer (some ⟨g, 0, none⟩)) (hg : w.heap[g]? = some (.cells cs t (0, 0)))
    (hu : P.underlying t = some d) (hd : (match d with | .struct _ | .array _ _ => true | _ => false) = true) (hi : (P.info? t).map (·.size) = some cs.size) : (results fn tmps).run P w = .ok (.tuple #[.agg cs, tmps.getD a undef]) w := by
  have h := run_loadVar_row w g t t cs (0, 0) d hg hu hd hi
  have hp' : tmps[k]?.getD undef = .pointer (some ⟨g, 0, none⟩) := by rw [← hp]; simp
  simp [results, hr, hp', asAddr, h]
theorem inC_size (i : InV) {w : World} {base : Nat} {ok : Nat → Prop} {p : Pkt} {pc : List Value} (h : kPkt.M w base ok p pc) : (Tryz.prog.info? 41).map (·.size) = some (inC i pc).toArray.size := by
  rw [show (inC i pc).toArray.size = 28 from by rw [List.size_toArray]; simp only [inC, List.length_cons, List.length_append, List.length_nil]; rw [kPkt.K_len (kPkt.K_of_M h)]; rfl]; exact inSize
theorem inC_sz2 (i : InV) {w : World} {base : Nat} {ok : Nat → Prop} {p : Pkt} {pc : List Value} (h : kPkt.M w base ok p pc) : inCells0.size = (inC i pc).toArray.size :=
  (show inCells0.size = 28 from rfl).trans (by rw [List.size_toArray]; simp only [inC, List.length_cons, List.length_append, List.length_nil]; rw [kPkt.K_len (kPkt.K_of_M h)]; rfl)
theorem inC_one (i : InV) {w : World} {base : Nat} {ok : Nat → Prop} {p : Pkt} {pc : List Value} (h : kPkt.M w base ok p pc) : (inC i pc).toArray.all (·.oneCell') = true := by
  rw [Array.all_eq_true_iff_forall_mem]
  intro u hu
  simp only [inC, List.mem_toArray, List.mem_cons, List.mem_append, List.not_mem_nil, or_false] at hu
  rcases hu with rfl | hu | rfl | rfl
  · rfl
  · exact kPkt.K_one (kPkt.K_of_M h) u hu
  · rfl
  · rfl
section
variable {w : World} {base C F : Nat} {most pat : Int} {s : CoS}
set_option maxRecDepth 100000 in
theorem co_over (h : CoIs w base C F most pat s) (h2 : s.st = 2) :
    Calls Tryz.prog 18 #[.pointer (some ⟨C, 0, none⟩)] w fun e w' => CoNextAt w w' base C F most pat e (⟨noIn, false⟩, s) := by
  obtain ⟨X, hX⟩ : ∃ X : World, X = w.alloc (.cells inCells0 41) := ⟨_, rfl⟩
  have hbx : Below w.heap.size w X := by rw [hX]; exact below_alloc (Below.refl w.heap.size w) _
  have hQ : X.heap[w.heap.size]? = some (.cells inCells0 41 (0, 0)) := by rw [hX]; exact heap_alloc_new w _
  have hh := h.below hbx
  have x0 : X.cell? ⟨C, 0, none⟩ = some (.int .i64 s.st) := blk_cell hh.self 0
  have t2 : (s.st == 2) = true := by simp [h2]
  have HX := Aside0.mk hX
  have HBX := Aside0.mk hbx
  have HQ := Aside0.mk hQ
  have HH := Aside0.mk hh
  clear h hX hbx hQ hh
  go_enter Tryz.func18, Tryz.ntmps18
  go_upto_region 1 with fail
  refine wp_wld (w2 := X) (by rw [HX.out]; rfl) ?_
  clear HX
  go_wp2_with (refine wpList_store_row rfl 41 _ _ rfl w.heap.size _ rfl rfl 41 _ HQ.out inSize rfl (by simp [Value.oneCell']) ?_)
  refine bodyPost_ret (results_next Tryz.results18 rfl (setRow_block HQ.out) Tryz.underlying41 rfl inSize) rfl ⟨inCells0.toList, rfl, in_M_mk (i := noIn) (noM _ _), HH.out.frm (setRow_fr X w.heap.size _) (fun k hk e => ⟨_, _, e ▸ HQ.out, by decide, by decide, by decide, by decide⟩), ?_⟩
  exact (Fr.of_below (okC C F) HBX.out).trans (setRow_fr X w.heap.size _) (fun k hk e => by omega)
set_option maxRecDepth 100000 in
set_option maxHeartbeats 4000000 in
theorem co_next (hg : Gl w) (h : CoIs w base C F most pat s) (h2 : s.st ≠ 2) (hlen : s.fr.b.length ≤ 1099511627770) (hb4 : 3 ≤ base) :
    Calls Tryz.prog 18 #[.pointer (some ⟨C, 0, none⟩)] w fun e w' => CoNextAt w w' base C F most pat e (s.next most) := by
  obtain ⟨X, hX⟩ : ∃ X : World, X = w.alloc (.cells inCells0 41) := ⟨_, rfl⟩
  have hbx : Below w.heap.size w X := by rw [hX]; exact below_alloc (Below.refl w.heap.size w) _
  have hQ : X.heap[w.heap.size]? = some (.cells inCells0 41 (0, 0)) := by rw [hX]; exact heap_alloc_new w _
  have hh := h.below hbx
  have x0 : X.cell? ⟨C, 0, none⟩ = some (.int .i64 s.st) := blk_cell hh.self 0
  have x1 : X.cell? ⟨C, 1, none⟩ = some (.pointer (some ⟨F, 0, none⟩)) := blk_cell hh.self 1
  have t2 : (s.st == 2) = false := by simp [h2]
  obtain ⟨a, ha⟩ : ∃ a, a = (s.fr.next most).1 := ⟨_, rfl⟩
  obtain ⟨f2, hf2⟩ : ∃ f2, f2 = (s.fr.next most).2 := ⟨_, rfl⟩
  have HGX := Aside0.mk (hg.below hbx hg.sz hbx.size)
  have HN := Aside0.mk (show Calls Tryz.prog 46 #[.pointer (some ⟨F, 0, none⟩)] X fun e w' => NextAt X w' base F most e (a, f2) by rw [ha, hf2]; exact frmNext_any HGX.out hh.fr hlen)
  have HE := Aside0.mk (show s.next most = if (nextA s.st a).ok then (nextA s.st a, tookP ⟨s.st, f2, s.keep, s.silence⟩ (nextA s.st a).i) else (nextA s.st a, ⟨s.st, f2, s.keep, s.silence⟩) by unfold CoS.next; rw [if_neg h2, ← ha, ← hf2])
  have HX := Aside0.mk hX
  have HBX := Aside0.mk hbx
  have HQ := Aside0.mk hQ
  have HH := Aside0.mk hh
  have HXS := Aside0.mk (show X.heap.size = w.heap.size + 1 by rw [hX]; simp)
  have HGF := Aside0.mk (show 3 ≤ F from Nat.le_trans hb4 h.fr.ge)
  have HCL := Aside0.mk (show C < w.heap.size ∧ base ≤ C from ⟨blk_lt h.self, h.ge⟩)
  clear hg h hX hbx hQ hh h2 ha hf2
  go_enter Tryz.func18, Tryz.ntmps18
  go_upto_region 1 with fail
  refine wp_wld (w2 := X) (by rw [HX.out]; rfl) ?_
  clear HX
  have x2' := HH.out.ne
  go_upto_region 4 with (first
    | (go_at_call 46; (with_reducible refine (HN.out).mono ?_); rintro e w1 ⟨pc, ev, rfl, hM, hE, hF, hB⟩; have HM := Aside0.mk hM; have HEV := Aside0.mk hE; have HF := Aside0.mk hF; have HB := Aside0.mk hB; have HPZ := Aside0.mk (show (Tryz.prog.info? 38).map (·.size) = some pc.toArray.size by rw [show pc.toArray.size = 25 from by rw [List.size_toArray, kPkt.K_len (kPkt.K_of_M hM)]; rfl]; exact pktSize); have HP2 := Aside0.mk (show noCells.size = pc.toArray.size from (show noCells.size = 25 from rfl).trans (by rw [List.size_toArray, kPkt.K_len (kPkt.K_of_M hM)]; rfl)); have HPO := Aside0.mk (show pc.toArray.all (·.oneCell') = true by rw [Array.all_eq_true_iff_forall_mem]; intro u hu; exact kPkt.K_one (kPkt.K_of_M hM) u (by simpa using hu)); clear hM hE hF hB; dsimp only)
    | (refine wpList_store_row rfl 38 _ _ rfl w1.heap.size _ rfl rfl 38 _ (heap_alloc_new w1 (.cells noCells 38)) HPZ.out HP2.out HPO.out ?_))
  obtain ⟨P, hPe⟩ : ∃ P, P = w1.heap.size := ⟨_, rfl⟩
  obtain ⟨Y, hY⟩ : ∃ Y : World, Y = (w1.alloc (.cells noCells 38)).setRow w1.heap.size pc.toArray := ⟨_, rfl⟩
  have hYb : Below w1.heap.size w1 Y := by rw [hY]; exact setRow_below (below_alloc (Below.refl _ _) _) (Nat.le_refl _) _
  have hYP : Y.heap[P]? = some (.cells pc.toArray 38 (0, 0)) := by rw [hY, hPe]; exact setRow_block (heap_alloc_new w1 _)
  have hYs : Y.heap.size = w1.heap.size + 1 := by rw [hY, setRow_size]; simp
  refine wp_wld (w2 := Y) (by rw [hY]; rfl) ?_
  rw [← hPe]
  obtain ⟨I, hI⟩ : ∃ I, I = Y.heap.size := ⟨_, rfl⟩
  obtain ⟨Z, hZ⟩ : ∃ Z : World, Z = (Y.alloc (.cells inCells0 41)).setRow Y.heap.size inCells0 := ⟨_, rfl⟩
  have hZb : Below Y.heap.size Y Z := by rw [hZ]; exact setRow_below (below_alloc (Below.refl _ _) _) (Nat.le_refl _) _
  have hZI : Z.heap[I]? = some (.cells inCells0 41 (0, 0)) := by rw [hZ, hI]; exact setRow_block (heap_alloc_new Y _)
  have hZP := (hZb.block P (blk_lt hYP)).trans hYP
  have hwZ : Below w1.heap.size w1 Z := hYb.trans (hZb.mono hYb.size)
  have hXZ : Fr (fun k => k = F) X Z := HB.out.trans (Fr.of_below (fun _ => False) hwZ) (fun _ _ e => e.elim)
  have HZC := Aside0.mk (show CoIs Z base C F most pat ⟨s.st, f2, s.keep, s.silence⟩ from (HH.out.step HF.out HB.out).below hwZ)
  have HZI := Aside0.mk hZI
  have HZP := Aside0.mk hZP
  have HZM := Aside0.mk (show kPkt.M Z X.heap.size (fun _ => True) a.p pc from Kd.M_below HM.out hwZ)
  have HZE := Aside0.mk (show EV Z X.heap.size ev a.f from HEV.out.fr (Fr.of_below (fun _ => False) hwZ) (fun _ _ e => e.elim))
  have HZF := Aside0.mk (show Fr (okC C F) w Z from (Fr.of_below (okC C F) HBX.out).trans hXZ (fun k _ e => .inr e))
  have hFX : F < w.heap.size ∧ F ≠ w.heap.size := by
    have h1 := HH.out.fr.lt
    have h2 : F ≠ w.heap.size := by
      intro e; obtain ⟨cells, hc⟩ := HH.out.fr.self
      rw [e, HQ.out] at hc; injection hc with hc; injection hc with _ hc; exact absurd hc (by decide)
    refine ⟨?_, h2⟩
    have h3 := blk_lt HQ.out
    rcases Nat.lt_or_ge F w.heap.size with h | h
    · exact h
    · exfalso
      have : X.heap.size = w.heap.size + 1 := HXS.out
      omega
  have HZQ := Aside0.mk (show Z.heap[w.heap.size]? = some (.cells inCells0 41 (0, 0)) from (hXZ.block _ (blk_lt HQ.out) (Ne.symm hFX.2)).trans HQ.out)
  have HZG := Aside0.mk (show Gl Z from HGX.out.fr hXZ (fun k hk e => by have := HGF.out; omega))
  have HSZ := Aside0.mk (show X.heap.size ≤ w1.heap.size ∧ Y.heap.size = w1.heap.size + 1 ∧ w.heap.size < X.heap.size from ⟨HB.out.size, hYs, blk_lt HQ.out⟩)
  have HNI := Aside0.mk (show I ≠ C ∧ w.heap.size ≠ C from by have := HCL.out; have := HSZ.out; omega)
  have HZ := Aside0.mk hZ
  have HYZ := Aside0.mk (show I = Y.heap.size from hI)
  clear hY hYb hYP hYs hZb hZI hZP hwZ hXZ hZ hPe x0 x1 x2' t2 HN
  go_upto_block 0 with (refine wpList_store_row rfl 41 _ _ rfl Y.heap.size _ rfl rfl 41 _ (heap_alloc_new Y (.cells inCells0 41)) inSize rfl (by simp [Value.oneCell']) ?_)
  refine wp_wld (w2 := Z) (by rw [HZ.out]; rfl) ?_
  rw [← hI]
  clear hI HZ
  cases hf : a.f with
  | some q =>
    obtain ⟨qa, qc⟩ := q
    have hev := HZE.out
    rw [hf] at hev
    obtain ⟨G, rfl, hG, hbG⟩ := hev
    have hq : ∀ (w : World), (binOp .neq 60 (.iface 108 (.pointer (some ⟨G, 0, none⟩))) .nilIface).run Tryz.prog w = .ok (.bool true) w := fun _ => by kernel_rfl
    have y0 : Z.cell? ⟨I, 0, none⟩ = some (.int .i64 0) := blk_cell HZI.out 0
    have yf : Z.frozen? ⟨I, 0, none⟩ = false := blk_frozen HZI.out 0
    obtain ⟨i, hi⟩ : ∃ i : InV, i = ⟨3, noPkt, 0, qc⟩ := ⟨_, rfl⟩
    have HEQ := Aside0.mk (show s.next most = (⟨i, true⟩, tookP ⟨s.st, f2, s.keep, s.silence⟩ i) by rw [HE.out]; unfold nextA; rw [hf, hi]; rfl)
    obtain ⟨Z2, hZ2⟩ : ∃ Z2, Z2 = Z.setCell ⟨I, 0, none⟩ (.int .i64 3) := ⟨_, rfl⟩
    have hZ2I : Z2.heap[I]? = some (.cells (inC ⟨3, noPkt, 0, 0⟩ noCells.toList).toArray 41 (0, 0)) := by rw [hZ2]; exact blk_set HZI.out 0 _
    have hF2 : Fr (fun k => k = I) Z Z2 := by rw [hZ2]; exact (Fr.refl (fun k => k = I) Z).setCell (p := ⟨I, 0, none⟩) (fun _ => rfl) _
    have hGI : G ≠ I := by
      intro e; rw [← e] at hZ2I
      have h1 : Z.heap[G]? = _ := hG
      rw [e, HZI.out] at h1; injection h1 with h1; injection h1 with _ h1; exact absurd h1 (by decide)
    have hG2 : FltAt Z2 G qa qc := (hF2.block G (blk_lt hG) hGI).trans hG
    have hGL2 : Gl Z2 := HZG.out.fr hF2 (fun k hk e => by have := HZG.out.sz; have := HSZ.out; have := HYZ.out; have := HGX.out.sz; omega)
    have has := Errs.as_errno G qc ⟨I, 27, none⟩ (.int .i64 0) Z2 hGL2.et (blk_cell hG2 1) (blk_cell hZ2I 27) (blk_frozen hZ2I 27)
    have hbb : ∃ wa : World, (Below Z2.heap.size Z2 wa) ∧ ∀ e w', (e = Ending.returned (.bool true) ∧ w' = ((((Z2.alloc (.cells #[.pointer (some ⟨I, 27, none⟩)] 99)).alloc (.cells #[.pointer (some ⟨4, 99, none⟩), .pointer (some ⟨Z2.heap.size, 0, none⟩), .int .u64 150] 140)).alloc (.cells #[.pointer (some ⟨4, 99, none⟩), .pointer (some ⟨Z2.heap.size, 0, none⟩), .int .u64 150] 140)).alloc (.cells #[.int .i64 qc] 39)).setCell ⟨I, 27, none⟩ (.int .i64 qc)) → e = Ending.returned (.bool true) ∧ w' = wa.setCell ⟨I, 27, none⟩ (.int .i64 qc) :=
      ⟨_, (((Below.refl _ _).alloc (Nat.le_refl _) _).alloc (by simp <;> omega) _).alloc (by simp <;> omega) _ |>.alloc (by simp <;> omega) _, fun _ _ h => h⟩
    obtain ⟨wa, hba, himp⟩ := hbb
    have has2 : Calls Tryz.prog 47 #[.iface 108 (.pointer (some ⟨G, 0, none⟩)), .iface 99 (.pointer (some ⟨I, 27, none⟩))] Z2 fun ev w' => ev = .returned (.bool true) ∧ w' = wa.setCell ⟨I, 27, none⟩ (.int .i64 qc) := has.mono himp
    rw [hZ2] at has2
    have HAS := Aside0.mk has2
    have hVI : (wa.setCell ⟨I, 27, none⟩ (.int .i64 qc)).heap[I]? = some (.cells (inC ⟨3, noPkt, 0, qc⟩ noCells.toList).toArray 41 (0, 0)) := blk_set ((hba.block I (blk_lt hZ2I)).trans hZ2I) 27 _
    have hFa : Fr (fun k => k = I) Z (wa.setCell ⟨I, 27, none⟩ (.int .i64 qc)) := (hF2.trans (Fr.of_below (fun _ => False) hba) (fun _ _ e => e.elim)).setCell (p := ⟨I, 27, none⟩) (fun _ => rfl) _
    have hIge : w.heap.size < I := by have := HSZ.out; have := HYZ.out; omega
    have HVI := Aside0.mk (show (wa.setCell ⟨I, 27, none⟩ (.int .i64 qc)).heap[I]? = some (.cells (inC i noCells.toList).toArray 41 (0, 0)) by rw [hi]; exact hVI)
    have HVM := Aside0.mk (show kPkt.M (wa.setCell ⟨I, 27, none⟩ (.int .i64 qc)) X.heap.size (fun _ => True) i.p noCells.toList by rw [hi]; exact noM _ _)
    have HVC := Aside0.mk (show CoIs (wa.setCell ⟨I, 27, none⟩ (.int .i64 qc)) base C F most pat ⟨s.st, f2, s.keep, s.silence⟩ from HZC.out.frm hFa (fun k hk e => ⟨_, _, e ▸ HZI.out, by decide, by decide, by decide, by decide⟩))
    have HVQ := Aside0.mk (show (wa.setCell ⟨I, 27, none⟩ (.int .i64 qc)).heap[w.heap.size]? = some (.cells inCells0 41 (0, 0)) from (hFa.block _ (blk_lt HZQ.out) (by omega)).trans HZQ.out)
    have HVF := Aside0.mk (show Fr (okC C F) w (wa.setCell ⟨I, 27, none⟩ (.int .i64 qc)) from HZF.out.trans hFa (fun k hk e => by omega))
    generalize wa.setCell ⟨I, 27, none⟩ (.int .i64 qc) = V at *
    have HVZ := Aside0.mk (inC_size i HVM.out)
    have HV2 := Aside0.mk (inC_sz2 i HVM.out)
    have HVO := Aside0.mk (inC_one i HVM.out)
    have HTK := Aside0.mk (took_any HVC.out i noCells.toList (kPkt.K_of_M HVM.out))
    clear hZ2 hZ2I hF2 hGL2 hG2 hGI hbG hG has has2 himp hba hVI hFa hIge hi
    go_upto_region 11 with (go_at_call 47; (with_reducible refine (HAS.out).mono ?_); rintro e w4 ⟨rfl, hw4⟩; subst hw4)
    go_wp2_with (first
      | (refine wpList_load_row rfl 41 _ rfl I rfl 41 _ (0, 0) _ HVI.out Tryz.underlying41 rfl HVZ.out ?_)
      | (go_at_call 49; (with_reducible refine (HTK.out).mono ?_); rintro e w9 ⟨rfl, hC9, hB9⟩; have HC9 := Aside0.mk hC9; have HB9 := Aside0.mk hB9; have HI9 := Aside0.mk ((hB9.block I (blk_lt HVI.out) HNI.out.1).trans HVI.out); have HQ9 := Aside0.mk ((hB9.block w.heap.size (blk_lt HVQ.out) HNI.out.2).trans HVQ.out); have HM9 := Aside0.mk (M_frT HVM.out hB9 (fun k hk e => ⟨_, _, e ▸ HVC.out.self, by decide⟩)); clear hC9 hB9)
      | (refine wpList_load_row rfl 41 _ rfl I rfl 41 _ (0, 0) _ HI9.out Tryz.underlying41 rfl HVZ.out ?_)
      | (refine wpList_store_row rfl 41 _ _ rfl w.heap.size _ rfl rfl 41 _ HQ9.out HVZ.out HV2.out HVO.out ?_))
    rw [HEQ.out]
    refine bodyPost_ret (results_next Tryz.results18 rfl (setRow_block HQ9.out) Tryz.underlying41 rfl HVZ.out) rfl ⟨_, rfl, in_M_mk (M_frT (kPkt.M_lower HBX.out.size HM9.out) (setRow_fr w9 w.heap.size _) (fun k hk e => ⟨_, _, e ▸ HQ9.out, by decide⟩)), HC9.out.frm (setRow_fr w9 w.heap.size _) (fun k hk e => ⟨_, _, e ▸ HQ9.out, by decide, by decide, by decide, by decide⟩), ?_⟩
    exact (HVF.out.trans HB9.out (fun k _ e => .inl e)).trans (setRow_fr w9 w.heap.size _) (fun k hk e => by omega)
  | none =>
    have hev := HZE.out
    rw [hf] at hev
    have hev : ev = .nilIface := hev
    subst hev
    have hq : ∀ (w : World), (binOp .neq 60 .nilIface .nilIface).run Tryz.prog w = .ok (.bool false) w := fun _ => by kernel_rfl
    cases hk : a.ok with
    | false =>
      have HEQ := Aside0.mk (show s.next most = (⟨noIn, false⟩, ⟨s.st, f2, s.keep, s.silence⟩) by rw [HE.out]; unfold nextA; rw [hf, hk]; rfl)
      go_wp2_with (first
        | (refine wpList_load_row rfl 41 _ rfl I rfl 41 _ (0, 0) _ HZI.out Tryz.underlying41 rfl inSize ?_)
        | (refine wpList_store_row rfl 41 _ _ rfl w.heap.size _ rfl rfl 41 _ HZQ.out inSize rfl (by simp [inCells0, inC, noCells, pktCells, Value.oneCell']) ?_))
      rw [HEQ.out]
      refine bodyPost_ret (results_next Tryz.results18 rfl (setRow_block HZQ.out) Tryz.underlying41 rfl inSize) rfl ⟨inCells0.toList, rfl, in_M_mk (i := noIn) (noM _ _), HZC.out.frm (setRow_fr Z w.heap.size _) (fun k hk e => ⟨_, _, e ▸ HZQ.out, by decide, by decide, by decide, by decide⟩), ?_⟩
      exact HZF.out.trans (setRow_fr Z w.heap.size _) (fun k hk e => by omega)
    | true =>
      obtain ⟨i, hi⟩ : ∃ i : InV, i = judgeP s.st a.p := ⟨_, rfl⟩
      have HEQ := Aside0.mk (show s.next most = (⟨i, true⟩, tookP ⟨s.st, f2, s.keep, s.silence⟩ i) by rw [HE.out]; unfold nextA; rw [hf, hk, hi]; rfl)
      obtain ⟨pc2, hpc2⟩ : ∃ pc2, pc2 = (if i.what = 1 then pc else noCells.toList) := ⟨_, rfl⟩
      have HJ := Aside0.mk (show Calls Tryz.prog 48 #[.pointer (some ⟨C, 0, none⟩), .agg pc.toArray] Z fun e w' => e = .returned (.agg (inC i pc2).toArray) ∧ Below Z.heap.size Z w' by
        rw [hpc2, hi]; exact judge_any HZC.out a.p pc (kPkt.K_of_M HZM.out))
      have hip : i.p = if i.what = 1 then a.p else noPkt := by
        rw [hi]; unfold judgeP
        repeat (first | rfl | split)
      have hm2 : ∀ W, kPkt.M W X.heap.size (fun _ => True) a.p pc → kPkt.M W X.heap.size (fun _ => True) i.p pc2 := by
        intro W hW
        rw [hip, hpc2]
        split
        · exact hW
        · exact noM _ _
      have HM2 := Aside0.mk hm2
      clear hi hpc2 hip hm2
      go_upto_region 11 with (first
        | (refine wpList_load_row rfl 38 _ rfl P rfl 38 _ (0, 0) _ HZP.out Tryz.underlying38 rfl HPZ.out ?_)
        | (go_at_call 48; (with_reducible refine (HJ.out).mono ?_); rintro e w8 ⟨rfl, hB8⟩; have HB8 := Aside0.mk hB8; have HI8 := Aside0.mk ((hB8.block I (blk_lt HZI.out)).trans HZI.out); have HM8 := Aside0.mk (HM2.out _ (Kd.M_below HZM.out hB8)); clear hB8)
        | (refine wpList_store_row rfl 41 _ _ rfl I _ rfl rfl 41 _ HI8.out (inC_size i HM8.out) (inC_sz2 i HM8.out) (inC_one i HM8.out) ?_))
      have hb8 := HB8.out
      have HVI := Aside0.mk (show (w8.setRow I (inC i pc2).toArray).heap[I]? = some (.cells (inC i pc2).toArray 41 (0, 0)) from setRow_block HI8.out)
      have HVM := Aside0.mk (show kPkt.M (w8.setRow I (inC i pc2).toArray) X.heap.size (fun _ => True) i.p pc2 from M_frT HM8.out (setRow_fr w8 I _) (fun k hk e => ⟨_, _, e ▸ HI8.out, by decide⟩))
      have HVC := Aside0.mk (show CoIs (w8.setRow I (inC i pc2).toArray) base C F most pat ⟨s.st, f2, s.keep, s.silence⟩ from (HZC.out.below hb8).frm (setRow_fr w8 I _) (fun k hk e => ⟨_, _, e ▸ HI8.out, by decide, by decide, by decide, by decide⟩))
      have HVQ := Aside0.mk (show (w8.setRow I (inC i pc2).toArray).heap[w.heap.size]? = some (.cells inCells0 41 (0, 0)) from (setRow_far (by have := HSZ.out; have := HYZ.out; omega) _).trans ((hb8.block _ (blk_lt HZQ.out)).trans HZQ.out))
      have HVF := Aside0.mk (show Fr (okC C F) w (w8.setRow I (inC i pc2).toArray) from (HZF.out.trans (Fr.of_below (fun _ => False) hb8) (fun _ _ e => e.elim)).trans (setRow_fr w8 I _) (fun k hk e => by have := HSZ.out; have := HYZ.out; omega))
      generalize w8.setRow I (inC i pc2).toArray = V at *
      have HVZ := Aside0.mk (inC_size i HVM.out)
      have HV2 := Aside0.mk (inC_sz2 i HVM.out)
      have HVO := Aside0.mk (inC_one i HVM.out)
      have HTK := Aside0.mk (took_any HVC.out i pc2 (kPkt.K_of_M HVM.out))
      clear hb8
      go_wp2_with (first
        | (refine wpList_load_row rfl 41 _ rfl I rfl 41 _ (0, 0) _ HVI.out Tryz.underlying41 rfl HVZ.out ?_)
        | (go_at_call 49; (with_reducible refine (HTK.out).mono ?_); rintro e w9 ⟨rfl, hC9, hB9⟩; have HC9 := Aside0.mk hC9; have HB9 := Aside0.mk hB9; have HI9 := Aside0.mk ((hB9.block I (blk_lt HVI.out) HNI.out.1).trans HVI.out); have HQ9 := Aside0.mk ((hB9.block w.heap.size (blk_lt HVQ.out) HNI.out.2).trans HVQ.out); have HM9 := Aside0.mk (M_frT HVM.out hB9 (fun k hk e => ⟨_, _, e ▸ HVC.out.self, by decide⟩)); clear hC9 hB9)
        | (refine wpList_load_row rfl 41 _ rfl I rfl 41 _ (0, 0) _ HI9.out Tryz.underlying41 rfl HVZ.out ?_)
        | (refine wpList_store_row rfl 41 _ _ rfl w.heap.size _ rfl rfl 41 _ HQ9.out HVZ.out HV2.out HVO.out ?_))
      rw [HEQ.out]
      refine bodyPost_ret (results_next Tryz.results18 rfl (setRow_block HQ9.out) Tryz.underlying41 rfl HVZ.out) rfl ⟨_, rfl, in_M_mk (M_frT (kPkt.M_lower HBX.out.size HM9.out) (setRow_fr w9 w.heap.size _) (fun k hk e => ⟨_, _, e ▸ HQ9.out, by decide⟩)), HC9.out.frm (setRow_fr w9 w.heap.size _) (fun k hk e => ⟨_, _, e ▸ HQ9.out, by decide, by decide, by decide, by decide⟩), ?_⟩
      exact (HVF.out.trans HB9.out (fun k _ e => .inl e)).trans (setRow_fr w9 w.heap.size _) (fun k hk e => by omega)
theorem coNext_any (hg : Gl w) (h : CoIs w base C F most pat s) (hlen : s.fr.b.length ≤ 1099511627770) (hb4 : 3 ≤ base) :
    Calls Tryz.prog 18 #[.pointer (some ⟨C, 0, none⟩)] w fun e w' => CoNextAt w w' base C F most pat e (s.next most) := by
  by_cases h2 : s.st = 2
  · rw [CoS.next_over most h2]; exact co_over h h2
  · exact co_next hg h h2 hlen hb4
end
end Go.Proofs.YthlbcgaegaoanaaGreatDoor.Cr

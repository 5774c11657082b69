/- Plain law: what crierlaw12.few lets in (over its printed function), and the walk of it said with these words. No condition. -/
import Derived.Test.YtjccmlmkcjmicaaPWindowHoldsx1
import Derived.Test.YtjccmlmkcjmicaaWinKeep
namespace Go.Proofs.Ytjccmlmkcjmicaa.Win
open Go Go.RowKit Go.Maps Go.MapKept Go.ChangeMaps Go.Proofs.YtjccmlmkcjmicaaW.PrintWords Go.Proofs.Ytjccmlmkcjmicaa.Kinds Go.Proofs.Ytjccmlmkcjmicaa.PWindowHolds
set_option linter.unusedVariables false

/-- a call of a script, as the printed text has it -/
def opOf (x : S78) : OpV := ⟨x.f0, x.f1, ⟨x.f2.f0, x.f2.f1, x.f2.f2, x.f2.f3⟩, x.f3, x.f4⟩
/-- what a script's call may be at most -/
def OpFits (x : S78) : Prop := x.f2.f0.size ≤ 9223372036854775807 ∧ x.f2.f1.length ≤ 9223372036854775807

theorem few_tail (l : List S78) (hl : l.length ≤ 9223372036854775807) (s : Int) : ∀ (d : Nat) (i n : Int), 0 ≤ i → i + d = l.length → 0 ≤ n → n ≤ i → ∃ k r, crierlaw12_few.l1 k l n i s = some r ∧ (r = true → 0 ≤ s ∧ l.length ≤ 300)
  | 0, i, n, hi, hd, hn, hni => by
    refine ⟨2, ?_⟩
    simp only [crierlaw12_few.l1]
    rw [if_neg (by omega)]
    simp only [crierlaw12_few.j3]
    rw [if_neg (by simp)]
    unfold crierroom_Count_Ok.f
    simp only [Option.bind_some]
    by_cases h0 : s ≥ 0
    · rw [if_pos (by simpa using h0)]
      by_cases h3 : (l.length : Int) ≤ 300
      · rw [if_pos h3]; exact ⟨_, rfl, fun _ => ⟨h0, by omega⟩⟩
      · rw [if_neg h3]; exact ⟨_, rfl, fun h => by cases h⟩
    · rw [if_neg (by simpa using h0)]; exact ⟨_, rfl, fun h => by cases h⟩
  | d + 1, i, n, hi, hd, hn, hni => by
    by_cases h3 : i ≤ 300
    · by_cases hk : (rd_T78 l i).f0 = 10
      · obtain ⟨k, r, hr, hp⟩ := few_tail l hl s d (i + 1) (n + 1) (by omega) (by omega) (by omega) (by omega)
        refine ⟨k + 2, r, ?_, hp⟩
        simp only [crierlaw12_few.l1]
        rw [if_pos (by omega)]
        simp only [crierlaw12_few.j3]
        rw [if_pos (by simpa using h3), if_pos hi, if_pos (by omega), if_pos hk, show wrap64 (n + 1) = n + 1 by unfold wrap64; omega, show wrap64 (i + 1) = i + 1 by unfold wrap64; omega]
        exact hr
      · obtain ⟨k, r, hr, hp⟩ := few_tail l hl s d (i + 1) n (by omega) (by omega) (by omega) (by omega)
        refine ⟨k + 2, r, ?_, hp⟩
        simp only [crierlaw12_few.l1]
        rw [if_pos (by omega)]
        simp only [crierlaw12_few.j3]
        rw [if_pos (by simpa using h3), if_pos hi, if_pos (by omega), if_neg hk, show wrap64 (i + 1) = i + 1 by unfold wrap64; omega]
        exact hr
    · refine ⟨2, ?_⟩
      simp only [crierlaw12_few.l1]
      rw [if_pos (by omega)]
      simp only [crierlaw12_few.j3]
      rw [if_neg (by simpa using h3)]
      unfold crierroom_Count_Ok.f
      simp only [Option.bind_some]
      by_cases h0 : s ≥ 0
      · rw [if_pos (by simpa using h0), if_neg (by omega)]; exact ⟨_, rfl, fun h => by cases h⟩
      · rw [if_neg (by simpa using h0)]; exact ⟨_, rfl, fun h => by cases h⟩

theorem add_tells (s n : Int) (h0 : -9223372036854775807 ≤ s) (h1 : s ≤ 100000) (hn0 : 0 ≤ n) (hn : n ≤ 9223372036854775807) : ∃ b s', crierroom_Count_Add.f s n = some (b, s') ∧ s' ≤ s ∧ -9223372036854775807 ≤ s' ∧ (0 ≤ s' → 0 ≤ s ∧ n ≤ s) := by
  unfold crierroom_Count_Add.f
  by_cases hs : s ≥ 0
  · rw [if_pos hs]
    have hw : wrap64 (s - n) = s - n := by unfold wrap64; omega
    rw [hw]
    exact ⟨_, _, rfl, by omega, by omega, fun _ => by omega⟩
  · rw [if_neg hs]
    exact ⟨_, _, rfl, by omega, by omega, fun _ => by omega⟩
theorem message_tells (s : Int) (t : ByteArray) (p : List Int) (q : Int) (rt : Bool) (h0 : -9223372036854775807 ≤ s) (h1 : s ≤ 100000) (ht : t.size ≤ 9223372036854775807) (hp : p.length ≤ 9223372036854775807) :
    ∃ s', crierroom_Count_Message.f s t p q rt = some s' ∧ s' ≤ s ∧ -9223372036854775807 ≤ s' ∧ (0 ≤ s' → 0 ≤ s ∧ p.length ≤ 100000) := by
  unfold crierroom_Count_Message.f crierroom_Count_Text.f crierroom_Count_Bytes.f
  obtain ⟨b1, s1, e1, l1, m1, p1⟩ := add_tells s 1 h0 h1 (by omega) (by omega)
  obtain ⟨b2, s2, e2, l2, m2, p2⟩ := add_tells s1 t.size m1 (by omega) (by omega) (by omega)
  obtain ⟨b3, s3, e3, l3, m3, p3⟩ := add_tells s2 1 m2 (by omega) (by omega) (by omega)
  obtain ⟨b4, s4, e4, l4, m4, p4⟩ := add_tells s3 p.length m3 (by omega) (by omega) (by omega)
  rw [e1]; simp only [Option.bind_some]; rw [e2]; simp only [Option.bind_some]; rw [e3]; simp only [Option.bind_some]; rw [e4]; simp only [Option.bind_some]
  exact ⟨s4, rfl, by omega, m4, fun h => by have := p4 h; have := p3 this.1; have := p2 this.1; have := p1 this.1; omega⟩

theorem few_tells (l : List S78) (hl : l.length ≤ 9223372036854775807) (hf : ∀ x ∈ l, OpFits x) : ∀ (d : Nat) (i s : Int), 0 ≤ i → i + d = l.length → -9223372036854775807 ≤ s → s ≤ 100000 →
    ∃ k r, crierlaw12_few.l0 k l i s = some r ∧ (r = true → 0 ≤ s ∧ l.length ≤ 300 ∧ ∀ j : Nat, i ≤ j → j < l.length → (l.getD j z78).f2.f1.length ≤ 100000)
  | 0, i, s, hi, hd, h0, h1 => by
    obtain ⟨k, r, hr, hp⟩ := few_tail l hl s l.length 0 0 (by omega) (by omega) (by omega) (by omega)
    refine ⟨k + 2, r, ?_, fun h => ⟨(hp h).1, (hp h).2, fun j hj hj2 => by omega⟩⟩
    simp only [crierlaw12_few.l0]
    rw [if_neg (by omega)]
    simp only [crierlaw12_few.j1]
    exact hr
  | d + 1, i, s, hi, hd, h0, h1 => by
    by_cases hs : s ≥ 0
    · have hm : l.getD i.toNat z78 ∈ l := by
        rw [List.getD_eq_getElem?_getD, List.getElem?_eq_getElem (by omega)]; exact List.getElem_mem _
      have hfit := hf _ hm
      obtain ⟨s', e, l', m', p'⟩ := message_tells s _ _ (rd_T78 l i).f2.f2 (rd_T78 l i).f2.f3 h0 h1 hfit.1 hfit.2
      obtain ⟨k, r, hr, hp⟩ := few_tells l hl hf d (i + 1) s' (by omega) (by omega) m' (by omega)
      refine ⟨k + 1, r, ?_, fun h => ?_⟩
      · simp only [crierlaw12_few.l0]
        rw [if_pos (by omega)]
        unfold crierroom_Count_Ok.f
        simp only [Option.bind_some]
        rw [if_pos (by simpa using hs), if_pos hi, show wrap64 (i + 1) = i + 1 by unfold wrap64; omega]
        unfold rd_T78 at e ⊢
        rw [e]
        simp only [Option.bind_some]
        exact hr
      · obtain ⟨a, b, c⟩ := hp h
        refine ⟨(p' a).1, b, fun j hj hj2 => ?_⟩
        by_cases hij : i = j
        · subst hij
          have := (p' a).2
          simpa using this
        · exact c j (by omega) hj2
    · obtain ⟨k, r, hr, hp⟩ := few_tail l hl s l.length 0 0 (by omega) (by omega) (by omega) (by omega)
      refine ⟨k + 2, r, ?_, fun h => by have := (hp h).1; omega⟩
      simp only [crierlaw12_few.l0]
      rw [if_pos (by omega)]
      unfold crierroom_Count_Ok.f
      simp only [Option.bind_some]
      rw [if_neg (by simpa using hs)]
      simp only [crierlaw12_few.j1]
      exact hr

/-- few answers; where it lets a script in, this has at most 300 calls, and no payload is long -/
theorem few_any (A : Option Addr) (c : Nat) (l : List S78) (w : World) (hr : Kd.C k78 w A l.length l) (hc : l.length ≤ c) (hl : l.length ≤ 9223372036854775807) (hf : ∀ x ∈ l, OpFits x) :
    Calls Try.prog 29 #[.slice A l.length c] w fun e w' => ∃ r : Bool, e = .returned (.bool r) ∧ (r = true → l.length ≤ 300 ∧ ∀ x ∈ l, Short (opOf x).m) ∧ Below w.heap.size w w' := by
  obtain ⟨k, r, hr', hp⟩ := few_tells l hl hf l.length 0 100000 (by omega) (by omega) (by omega) (by omega)
  refine (crierlaw12_few.calls k A c l r w hr hc (by unfold crierlaw12_few.f crierroom_Many.f; exact hr')).mono ?_
  rintro e w' ⟨rfl, hb⟩
  refine ⟨r, rfl, fun h => ⟨(hp h).2.1, fun x hx => ?_⟩, hb⟩
  obtain ⟨j, hj, rfl⟩ := List.getElem_of_mem hx
  have := (hp h).2.2 j (by omega) hj
  rw [List.getD_eq_getElem?_getD, List.getElem?_eq_getElem hj] at this
  show _ ≤ _
  simp only [opOf]
  have h2 : (l[j]).f2.f1.length ≤ 100000 := this
  omega
end Go.Proofs.Ytjccmlmkcjmicaa.Win

/- what is taken is written no longer, in plain Lean. No statement of the program. what is taken is written no longer: every kind, and the whole. No statement of the program. CodecForm in plain Lean. No statement of the program. what is written is bytes; what is read holds bytes; a right packet's lists are no longer than its fields. No statement of the program. -/
import Derived.Test.YthlbcgaegaoanaaGreatDoorMEnc
import Derived.Test.YthlbcgaegaoanaaGreatDoorMDec
namespace Go.Proofs.YthlbcgaegaoanaaGreatDoor.Cr
open Go Go.RowKit Go.Proofs.YthlbcgaegaoanaaGreatDoorW.PrintWords Go.Proofs.YthlbcgaegaoanaaGreatDoorW.PrintLast Go.Proofs.YthlbcgaegaoanaaGreatDoorW.PrintMore Go.Proofs.YthlbcgaegaoanaaGreatDoor.Kinds Go.Proofs.YthlbcgaegaoanaaGreatDoor.Utf Go.Proofs.YthlbcgaegaoanaaGreatDoor.Chk Go.Proofs.YthlbcgaegaoanaaGreatDoor.Rdr
set_option linter.unusedVariables false
set_option linter.unusedSimpArgs false
theorem str_size (ys : List Int) : (strOfNums ys).size = ys.length := by
  unfold strOfNums
  simp [ByteArray.size]
section
variable {l : List Int} {a : Int} {f : Option (Int × Int)}
theorem byte_len (h : (rByte l a f).f = none) (h0 : 0 ≤ a) : f = none ∧ (rByte l a f).a = a + 1 ∧ a + 1 ≤ l.length := by
  unfold rByte at h ⊢
  cases f with
  | some q => simp at h
  | none =>
    by_cases h1 : a + 1 ≤ l.length
    · simp [h1]
    · simp [h1] at h
theorem num_len (h : (rNum l a f).f = none) (h0 : 0 ≤ a) : f = none ∧ (rNum l a f).a = a + 2 ∧ a + 2 ≤ l.length := by
  unfold rNum at h ⊢
  cases f with
  | some q => simp at h
  | none =>
    by_cases h1 : a + 2 ≤ l.length
    · simp [h1]
    · simp [h1] at h
theorem data_len (hw : Bytes l) (h : (rData l a f).f = none) (h0 : 0 ≤ a) : f = none ∧ (rData l a f).a = a + 2 + (rData l a f).v.length ∧ (rData l a f).a ≤ l.length := by
  unfold rData at h ⊢
  cases f with
  | some q => simp at h
  | none =>
    by_cases h1 : a + 2 ≤ l.length
    · have hr := two_range l a hw h0 h1
      by_cases h2 : a + 2 + joinG ((l.drop a.toNat).take 2) ≤ l.length
      · simp only [Option.isSome_none, Bool.false_eq_true, if_false, if_pos h1, if_pos h2]
        refine ⟨trivial, ?_, h2⟩
        rw [List.length_take, List.length_drop]
        omega
      · simp [h1, h2] at h
    · simp [h1] at h
theorem text_len (hw : Bytes l) (h : (rText l a f).f = none) (h0 : 0 ≤ a) : f = none ∧ (rText l a f).a = a + 2 + (rText l a f).v.size ∧ (rText l a f).a ≤ l.length := by
  unfold rText at h ⊢
  cases f with
  | some q => simp at h
  | none =>
    by_cases h1 : a + 2 ≤ l.length
    · have hr := two_range l a hw h0 h1
      by_cases h2 : a + 2 + joinG ((l.drop a.toNat).take 2) ≤ l.length
      · by_cases h3 : (chk (strOfNums ((l.drop (a + 2).toNat).take (joinG ((l.drop a.toNat).take 2)).toNat))).2 = 0
        · simp only [Option.isSome_none, Bool.false_eq_true, if_false, if_pos h1, if_pos h2, if_pos h3]
          refine ⟨trivial, ?_, h2⟩
          rw [str_size, List.length_take, List.length_drop]
          omega
        · simp only [Option.isSome_none, Bool.false_eq_true, if_false, if_pos h1, if_pos h2, if_neg h3] at h
          simp at h
      · simp [h1, h2] at h
    · simp [h1] at h
theorem end_len (h : rEnd l a f = none) : f = none ∧ (l.length : Int) ≤ a := by
  unfold rEnd at h
  cases f with
  | some q => simp at h
  | none =>
    by_cases h1 : a < l.length
    · simp [h1] at h
    · exact ⟨rfl, by omega⟩
end
theorem will_len {l : List Int} (hw : Bytes l) {s : CS} (h : (sWill l s).f = none) (h0 : 0 ≤ s.a) (h1 : s.a ≤ l.length) :
    s.f = none ∧ (sWill l s).a = s.a + (if s.p.hasWill then (2 + ((sWill l s).p.will.topic.size : Int)) + (2 + (sWill l s).p.will.payload.length) else 0) ∧ (sWill l s).a ≤ l.length ∧ (sWill l s).p.hasUser = s.p.hasUser ∧ (sWill l s).p.hasPass = s.p.hasPass ∧ (sWill l s).p.hasWill = s.p.hasWill ∧ (sWill l s).p.client = s.p.client := by
  unfold sWill at h ⊢
  by_cases hh : s.p.hasWill = true
  · simp only [if_pos hh] at h ⊢
    have hf : (rText l s.a s.f).f = none := by
      cases hx : (rText l s.a s.f).f with
      | none => rfl
      | some q =>
        unfold rData at h
        rw [hx] at h; simp at h
    obtain ⟨e4, e5, e6⟩ := text_len hw hf h0
    obtain ⟨e1, e2, e3⟩ := data_len hw h (by omega)
    refine ⟨e4, ?_, e3, rfl, rfl, rfl, rfl⟩
    show _ = s.a + ((2 + ((rText l s.a s.f).v.size : Int)) + (2 + ((rData l (rText l s.a s.f).a (rText l s.a s.f).f).v.length : Int)))
    rw [e2, e5]; omega
  · simp only [if_neg hh] at h ⊢
    exact ⟨h, by omega, h1, trivial, trivial, trivial, trivial⟩
theorem user_len {l : List Int} (hw : Bytes l) {s : CS} (h : (sUser l s).f = none) (h0 : 0 ≤ s.a) (h1 : s.a ≤ l.length) :
    s.f = none ∧ (sUser l s).a = s.a + (if s.p.hasUser then (2 + ((sUser l s).p.user.size : Int)) else 0) ∧ (sUser l s).a ≤ l.length ∧ (sUser l s).p.hasUser = s.p.hasUser ∧ (sUser l s).p.hasPass = s.p.hasPass ∧ (sUser l s).p.hasWill = s.p.hasWill ∧ (sUser l s).p.client = s.p.client ∧ (sUser l s).p.will = s.p.will := by
  unfold sUser at h ⊢
  by_cases hh : s.p.hasUser = true
  · simp only [if_pos hh] at h ⊢
    obtain ⟨e4, e5, e6⟩ := text_len hw h h0
    refine ⟨e4, ?_, e6, rfl, rfl, rfl, rfl, rfl⟩
    show _ = s.a + (2 + ((rText l s.a s.f).v.size : Int))
    rw [e5]; omega
  · simp only [if_neg hh] at h ⊢
    exact ⟨h, by omega, h1, trivial, trivial, trivial, trivial, trivial⟩
theorem pass_len {l : List Int} (hw : Bytes l) {s : CS} (h : (sPass l s).f = none) (h0 : 0 ≤ s.a) (h1 : s.a ≤ l.length) :
    s.f = none ∧ (sPass l s).a = s.a + (if s.p.hasPass then (2 + ((sPass l s).p.pass.length : Int)) else 0) ∧ (sPass l s).a ≤ l.length ∧ (sPass l s).p.hasUser = s.p.hasUser ∧ (sPass l s).p.hasPass = s.p.hasPass ∧ (sPass l s).p.hasWill = s.p.hasWill ∧ (sPass l s).p.client = s.p.client ∧ (sPass l s).p.will = s.p.will ∧ (sPass l s).p.user = s.p.user := by
  unfold sPass at h ⊢
  by_cases hh : s.p.hasPass = true
  · simp only [if_pos hh] at h ⊢
    obtain ⟨e4, e5, e6⟩ := data_len hw h h0
    refine ⟨e4, ?_, e6, rfl, rfl, rfl, rfl, rfl, rfl⟩
    show _ = s.a + (2 + ((rData l s.a s.f).v.length : Int))
    rw [e5]; omega
  · simp only [if_neg hh] at h ⊢
    exact ⟨h, by omega, h1, trivial, trivial, trivial, trivial, trivial, trivial⟩
theorem connE_len (p : Pkt) : ((connE p).length : Int) = 10 + (2 + p.client.size) + (if p.hasWill then (2 + (p.will.topic.size : Int)) + (2 + p.will.payload.length) else 0) + (if p.hasUser then (2 + (p.user.size : Int)) else 0) + (if p.hasPass then (2 + (p.pass.length : Int)) else 0) := by
  have e0 : (txtE protoE).length = 6 := by rw [txtE_len]; rfl
  have e1 : (twoE p.keep).length = 2 := rfl
  unfold connE
  simp only [List.length_append, e0, e1, List.length_cons, List.length_nil, txtE_len, Int.natCast_add, if_len, datE_len]
  simp only [← Int.natCast_add]
  split <;> split <;> split <;> simp <;> omega
theorem conn_len {l : List Int} (hw : Bytes l) (hf : (cConn l 0 none (pKind 1)).f = none) (hb : cBad l 0 none none = none) : ((connE (cConn l 0 none (pKind 1)).p).length : Int) = l.length := by
  unfold cConn at hf ⊢
  dsimp only at hf ⊢
  obtain ⟨e1, e2⟩ := end_len hf
  -- the state behind the head
  have hH : ∀ H : CS, H = cHead l 0 none (pKind 1) → (sPass l (sUser l (sWill l H))).f = none → ((connE (sPass l (sUser l (sWill l H))).p).length : Int) = (sPass l (sUser l (sWill l H))).a ∧ (sPass l (sUser l (sWill l H))).a ≤ l.length := by
    intro H hHe hf
    have hst : ∀ s : CS, (sPass l s).f = none → s.f = none := fun s h => by
      unfold sPass at h
      split at h
      · unfold rData at h
        cases hx : s.f with
        | none => rfl
        | some q => rw [hx] at h; simp at h
      · exact h
    have hsu : ∀ s : CS, (sUser l s).f = none → s.f = none := fun s h => by
      unfold sUser at h
      split at h
      · unfold rText at h
        cases hx : s.f with
        | none => rfl
        | some q => rw [hx] at h; simp at h
      · exact h
    have hsw : ∀ s : CS, (sWill l s).f = none → s.f = none := fun s h => by
      unfold sWill at h
      split at h
      · unfold rData at h
        cases hx : (rText l s.a s.f).f with
        | none =>
          unfold rText at hx
          cases hy : s.f with
          | none => rfl
          | some q => rw [hy] at hx; simp at hx
        | some q => rw [hx] at h; simp at h
      · exact h
    have f3 := hst _ hf
    have f2 := hsu _ f3
    have f1 := hsw _ f2
    -- the head's reads
    have hc : (rText l (rNum l (rByte l (rByte l (rText l 0 none).a (rText l 0 none).f).a (rByte l (rText l 0 none).a (rText l 0 none).f).f).a (rByte l (rByte l (rText l 0 none).a (rText l 0 none).f).a (rByte l (rText l 0 none).a (rText l 0 none).f).f).f).a (rNum l (rByte l (rByte l (rText l 0 none).a (rText l 0 none).f).a (rByte l (rText l 0 none).a (rText l 0 none).f).f).a (rByte l (rByte l (rText l 0 none).a (rText l 0 none).f).a (rByte l (rText l 0 none).a (rText l 0 none).f).f).f).f).f = none := by
      rw [hHe] at f1; exact f1
    obtain ⟨t, ht⟩ : ∃ t, t = rText l 0 none := ⟨_, rfl⟩
    obtain ⟨y, hy⟩ : ∃ y, y = rByte l t.a t.f := ⟨_, rfl⟩
    obtain ⟨m, hm⟩ : ∃ m, m = rByte l y.a y.f := ⟨_, rfl⟩
    obtain ⟨k, hk⟩ : ∃ k, k = rNum l m.a m.f := ⟨_, rfl⟩
    obtain ⟨c, hcc⟩ : ∃ c, c = rText l k.a k.f := ⟨_, rfl⟩
    rw [← ht, ← hy, ← hm, ← hk, ← hcc] at hc
    have sk : ∀ (a : Int) (f : Option (Int × Int)), (rText l a f).f = none → f = none := fun a f h => by
      unfold rText at h
      cases f with
      | none => rfl
      | some q => simp at h
    have sn : ∀ (a : Int) (f : Option (Int × Int)), (rNum l a f).f = none → f = none := fun a f h => by
      unfold rNum at h
      cases f with
      | none => rfl
      | some q => simp at h
    have sb : ∀ (a : Int) (f : Option (Int × Int)), (rByte l a f).f = none → f = none := fun a f h => by
      unfold rByte at h
      cases f with
      | none => rfl
      | some q => simp at h
    have gk := sk _ _ (hcc ▸ hc)
    have gm := sn _ _ (hk ▸ gk)
    have gy := sb _ _ (hm ▸ gm)
    have gt := sb _ _ (hy ▸ gy)
    have lt := text_len hw (ht ▸ gt) (Int.le_refl 0)
    rw [← ht] at lt
    have ly := byte_len (hy ▸ gy) (by omega)
    rw [← hy] at ly
    have lm := byte_len (hm ▸ gm) (by omega)
    rw [← hm] at lm
    have lk := num_len (hk ▸ gk) (by omega)
    rw [← hk] at lk
    have lc := text_len hw (hcc ▸ hc) (by omega)
    rw [← hcc] at lc
    have h4 : t.v.size = 4 := by
      have : (t.v.toList == [77, 81, 84, 84]) = true := by
        by_cases hq : (t.v.toList == [77, 81, 84, 84]) = true
        · exact hq
        · exfalso
          unfold cBad at hb
          dsimp only at hb
          rw [← ht, gt] at hb
          have hq2 : (!t.v.toList == [77, 81, 84, 84]) = true := by simpa using hq
          rw [if_pos hq2] at hb
          have : ∀ x, cFail 0 33 none none = x → x ≠ none := by intro x hx; rw [← hx]; unfold cFail; simp
          split at hb
          · unfold cFail at hb
            simp at hb
          · exact this _ rfl hb
      have h5 : t.v.toList = [77, 81, 84, 84] := by simpa using this
      have := congrArg List.length h5
      rw [Lib.toList_data] at this
      exact this
    have hHa : H.a = c.a := by rw [hHe, hcc, hk, hm, hy, ht]; rfl
    have hHc : H.p.client = c.v := by rw [hHe, hcc, hk, hm, hy, ht]; rfl
    obtain ⟨_, w1, w2, w3, w4, w5, w6⟩ := will_len hw f2 (by omega) (by omega)
    obtain ⟨_, u1, u2, u3, u4, u5, u6, u7⟩ := user_len hw f3 (by omega) w2
    obtain ⟨_, q1, q2, q3, q4, q5, q6, q7, q8⟩ := pass_len hw hf (by omega) u2
    refine ⟨?_, q2⟩
    rw [connE_len, q1, u1, w1, q6, u6, w6, hHc, q5, u5, w5, q7, u7, q3, u3, w3, q8, q4, u4, w4, hHa]
    omega
  have := hH _ rfl e1
  omega
end Go.Proofs.YthlbcgaegaoanaaGreatDoor.Cr

namespace Go.Proofs.YthlbcgaegaoanaaGreatDoor.Cr
open Go Go.RowKit Go.Proofs.YthlbcgaegaoanaaGreatDoorW.PrintWords Go.Proofs.YthlbcgaegaoanaaGreatDoorW.PrintLast Go.Proofs.YthlbcgaegaoanaaGreatDoorW.PrintMore Go.Proofs.YthlbcgaegaoanaaGreatDoor.Kinds Go.Proofs.YthlbcgaegaoanaaGreatDoor.Utf Go.Proofs.YthlbcgaegaoanaaGreatDoor.Chk Go.Proofs.YthlbcgaegaoanaaGreatDoor.Rdr
set_option linter.unusedVariables false
set_option linter.unusedSimpArgs false
theorem asksE_app (x y : List AskV) : asksE (x ++ y) = asksE x ++ asksE y := by
  induction x with
  | nil => rfl
  | cons b t ih => simp [asksE, ih]
theorem filtE_app (x y : List ByteArray) : filtE' (x ++ y) = filtE' x ++ filtE' y := by
  induction x with
  | nil => rfl
  | cons b t ih => simp [filtE', ih]
section
variable {l : List Int}
theorem sub_len (hw : Bytes l) : ∀ (k : Nat) (s : CS), (subG l l.length k s).f = none → 0 ≤ s.a → s.a ≤ l.length → (l.length : Int) - s.a < k → s.f = none ∧ ∃ qs, (subG l l.length k s).p = uAsks s.p (s.p.asks ++ qs) ∧ (l.length : Int) = s.a + (asksE qs).length
  | 0, s, hf, h0, h1, hk => by omega
  | k + 1, s, hf, h0, h1, hk => by
    simp only [subG] at hf ⊢
    by_cases hm : cMore s.a s.f l.length none = true
    · rw [if_pos hm] at hf ⊢
      have hs : s.f = none ∧ s.a < l.length := by unfold cMore at hm; simpa using hm
      obtain ⟨g1, qs, g2, g3⟩ := sub_len hw k _ hf (by
        show 0 ≤ (rByte l (rText l s.a s.f).a (rText l s.a s.f).f).a
        by_cases hb : (rByte l (rText l s.a s.f).a (rText l s.a s.f).f).f = none
        · by_cases ht : (rText l s.a s.f).f = none
          · have e1 := text_len hw ht h0
            have e2 := byte_len hb (by omega)
            omega
          · exfalso
            unfold rByte at hb
            cases hx : (rText l s.a s.f).f with
            | none => exact ht hx
            | some q => rw [hx] at hb; simp at hb
        · exfalso
          have : ∀ (k : Nat) (s : CS), (subG l l.length k s).f = none → s.f = none := by
            intro k s h
            cases k with
            | zero => exact h
            | succ k =>
              simp only [subG] at h
              by_cases hm : cMore s.a s.f l.length none = true
              · unfold cMore at hm; simp at hm; exact hm.1
              · rw [if_neg hm] at h; exact h
          exact hb (this _ _ hf)) (by
        show (rByte l (rText l s.a s.f).a (rText l s.a s.f).f).a ≤ l.length
        have hb : (rByte l (rText l s.a s.f).a (rText l s.a s.f).f).f = none := by
          have : ∀ (k : Nat) (s : CS), (subG l l.length k s).f = none → s.f = none := by
            intro k s h
            cases k with
            | zero => exact h
            | succ k =>
              simp only [subG] at h
              by_cases hm : cMore s.a s.f l.length none = true
              · unfold cMore at hm; simp at hm; exact hm.1
              · rw [if_neg hm] at h; exact h
          exact this _ _ hf
        have ht : (rText l s.a s.f).f = none := by
          unfold rByte at hb
          cases hx : (rText l s.a s.f).f with
          | none => rfl
          | some q => rw [hx] at hb; simp at hb
        have e1 := text_len hw ht h0
        have e2 := byte_len hb (by omega)
        omega) (by
        show (l.length : Int) - (rByte l (rText l s.a s.f).a (rText l s.a s.f).f).a < k
        have hb : (rByte l (rText l s.a s.f).a (rText l s.a s.f).f).f = none := by
          have : ∀ (k : Nat) (s : CS), (subG l l.length k s).f = none → s.f = none := by
            intro k s h
            cases k with
            | zero => exact h
            | succ k =>
              simp only [subG] at h
              by_cases hm : cMore s.a s.f l.length none = true
              · unfold cMore at hm; simp at hm; exact hm.1
              · rw [if_neg hm] at h; exact h
          exact this _ _ hf
        have ht : (rText l s.a s.f).f = none := by
          unfold rByte at hb
          cases hx : (rText l s.a s.f).f with
          | none => rfl
          | some q => rw [hx] at hb; simp at hb
        have e1 := text_len hw ht h0
        have e2 := byte_len hb (by omega)
        omega)
      have g1' : (rByte l (rText l s.a s.f).a (rText l s.a s.f).f).f = none := g1
      have ht : (rText l s.a s.f).f = none := by
        unfold rByte at g1'
        cases hx : (rText l s.a s.f).f with
        | none => rfl
        | some q => rw [hx] at g1'; simp at g1'
      have e1 := text_len hw ht h0
      have e2 := byte_len g1' (by omega)
      refine ⟨hs.1, ⟨(rText l s.a s.f).v, (rByte l (rText l s.a s.f).a (rText l s.a s.f).f).v⟩ :: qs, ?_, ?_⟩
      · rw [g2]; unfold uAsks; simp
      · have g3' : (l.length : Int) = (rByte l (rText l s.a s.f).a (rText l s.a s.f).f).a + (asksE qs).length := g3
        simp only [asksE, List.length_append, txtE_len, List.length_cons, List.length_nil]
        omega
    · rw [if_neg hm] at hf ⊢
      have hs : (l.length : Int) ≤ s.a := by
        unfold cMore at hm
        rw [hf] at hm
        simpa using hm
      exact ⟨hf, [], by unfold uAsks; simp, by simp [asksE]; omega⟩
theorem sac_len : ∀ (k : Nat) (s : CS), (sacG l l.length k s).f = none → 0 ≤ s.a → s.a ≤ l.length → (l.length : Int) - s.a < k → s.f = none ∧ ∃ qs, (sacG l l.length k s).p = uCodes s.p (s.p.codes ++ qs) ∧ (l.length : Int) = s.a + (codesE qs).length
  | 0, s, hf, h0, h1, hk => by omega
  | k + 1, s, hf, h0, h1, hk => by
    simp only [sacG] at hf ⊢
    by_cases hm : cMore s.a s.f l.length none = true
    · rw [if_pos hm] at hf ⊢
      have hs : s.f = none ∧ s.a < l.length := by unfold cMore at hm; simpa using hm
      have hb : (rByte l s.a s.f).a = s.a + 1 := by unfold rByte; rw [hs.1, if_neg (by simp), if_pos (by omega)]
      obtain ⟨g1, qs, g2, g3⟩ := sac_len k _ hf (by show 0 ≤ (rByte l s.a s.f).a; omega) (by show (rByte l s.a s.f).a ≤ l.length; omega) (by show (l.length : Int) - (rByte l s.a s.f).a < k; omega)
      refine ⟨hs.1, (rByte l s.a s.f).v :: qs, ?_, ?_⟩
      · rw [g2]; unfold uCodes; simp
      · have g3' : (l.length : Int) = (rByte l s.a s.f).a + (codesE qs).length := g3
        simp only [codesE, List.length_cons]
        omega
    · rw [if_neg hm] at hf ⊢
      have hs : (l.length : Int) ≤ s.a := by
        unfold cMore at hm
        rw [hf] at hm
        simpa using hm
      exact ⟨hf, [], by unfold uCodes; simp, by simp [codesE]; omega⟩
theorem uns_stick : ∀ (k : Nat) (s : CS), (unsG l l.length k s).f = none → s.f = none := by
  intro k s h
  cases k with
  | zero => exact h
  | succ k =>
    simp only [unsG] at h
    by_cases hm : cMore s.a s.f l.length none = true
    · unfold cMore at hm; simp at hm; exact hm.1
    · rw [if_neg hm] at h; exact h
theorem uns_len (hw : Bytes l) : ∀ (k : Nat) (s : CS), (unsG l l.length k s).f = none → 0 ≤ s.a → s.a ≤ l.length → (l.length : Int) - s.a < k → s.f = none ∧ ∃ qs, (unsG l l.length k s).p = uFilters s.p (s.p.filters ++ qs) ∧ (l.length : Int) = s.a + (filtE' qs).length
  | 0, s, hf, h0, h1, hk => by omega
  | k + 1, s, hf, h0, h1, hk => by
    simp only [unsG] at hf ⊢
    by_cases hm : cMore s.a s.f l.length none = true
    · rw [if_pos hm] at hf ⊢
      have hs : s.f = none ∧ s.a < l.length := by unfold cMore at hm; simpa using hm
      have ht : (rText l s.a s.f).f = none := uns_stick _ _ hf
      have e1 := text_len hw ht h0
      obtain ⟨g1, qs, g2, g3⟩ := uns_len hw k _ hf (by show 0 ≤ (rText l s.a s.f).a; omega) (by show (rText l s.a s.f).a ≤ l.length; omega) (by show (l.length : Int) - (rText l s.a s.f).a < k; omega)
      refine ⟨hs.1, (rText l s.a s.f).v :: qs, ?_, ?_⟩
      · rw [g2]; unfold uFilters; simp
      · have g3' : (l.length : Int) = (rText l s.a s.f).a + (filtE' qs).length := g3
        simp only [filtE', List.length_append, txtE_len]
        omega
    · rw [if_neg hm] at hf ⊢
      have hs : (l.length : Int) ≤ s.a := by
        unfold cMore at hm
        rw [hf] at hm
        simpa using hm
      exact ⟨hf, [], by unfold uFilters; simp, by simp [filtE']; omega⟩
end
theorem will_kind (l : List Int) (s : CS) : (sWill l s).p.kind = s.p.kind := by unfold sWill; split <;> rfl
theorem user_kind (l : List Int) (s : CS) : (sUser l s).p.kind = s.p.kind := by unfold sUser; split <;> rfl
theorem pass_kind (l : List Int) (s : CS) : (sPass l s).p.kind = s.p.kind := by unfold sPass; split <;> rfl
theorem fields_len {l : List Int} (hw : Bytes l) (k fl : Int) (h1 : 1 ≤ k) (h2 : k ≤ 14) (hf : (fFields l k fl).f = none) (hb : (fFields l k fl).bad = none) : ((fldE (fFields l k fl).p).length : Int) = l.length := by
  have e2 : ∀ n, (twoE n).length = 2 := fun _ => rfl
  unfold fFields at hf hb ⊢
  by_cases k1 : k = 1
  · subst k1
    rw [if_pos rfl] at hf hb ⊢
    dsimp only at hf hb ⊢
    have hk : (cConn l 0 none (pKind 1)).p.kind = 1 := by
      unfold cConn
      dsimp only
      rw [pass_kind, user_kind, will_kind]; rfl
    have := conn_len hw hf hb
    unfold fldE
    rw [if_pos hk]; exact this
  · rw [if_neg k1] at hf hb ⊢
    by_cases k2 : k = 2
    · rw [if_pos k2] at hf hb ⊢
      unfold fConnack at hf hb ⊢
      dsimp only at hf hb ⊢
      obtain ⟨g1, g2⟩ := end_len hf
      have gb : (rByte l 0 none).f = none := by
        unfold rByte at g1
        cases hx : (rByte l 0 none).f with
        | none => rfl
        | some q => unfold rByte at hx; rw [hx] at g1; simp at g1
      have e3 := byte_len gb (Int.le_refl 0)
      have e4 := byte_len g1 (by omega)
      have hkk : ∀ b c, (uCode (uPresent (pKind 2) b) c).kind = 2 := fun _ _ => rfl
      unfold fldE
      rw [if_neg (by rw [hkk]; decide), if_pos (hkk _ _)]
      simp only [List.length_cons, List.length_nil]
      omega
    · rw [if_neg k2] at hf hb ⊢
      by_cases k3 : k = 3
      · rw [if_pos k3] at hf hb ⊢
        unfold fPublish at hf hb ⊢
        dsimp only at hf hb ⊢
        obtain ⟨s, hs⟩ : ∃ s, s = sId l ⟨(rText l 0 none).a, (rText l 0 none).f, uTopic (pPub (pKind 3) fl) (rText l 0 none).v⟩ := ⟨_, rfl⟩
        rw [← hs] at hf ⊢
        have gs : s.f = none := by
          unfold rRest at hf
          cases hx : s.f with
          | none => rfl
          | some q => rw [hx] at hf; simp at hf
        have hr : (rRest l s.a s.f).v = l.drop s.a.toNat := by unfold rRest; rw [gs]; simp
        have gt : (rText l 0 none).f = none := by
          rw [hs] at gs
          unfold sId at gs
          split at gs
          · unfold rNum at gs
            cases hx : (rText l 0 none).f with
            | none => rfl
            | some q => simp only [hx] at gs; simp at gs
          · exact gs
        have e1 := text_len hw gt (Int.le_refl 0)
        have hkk : (uPayload s.p (rRest l s.a s.f).v).kind = 3 := by rw [hs]; unfold sId; split <;> rfl
        have htt : (uPayload s.p (rRest l s.a s.f).v).msg.topic = (rText l 0 none).v := by rw [hs]; unfold sId; split <;> rfl
        have hqq : (uPayload s.p (rRest l s.a s.f).v).msg.qos = (uTopic (pPub (pKind 3) fl) (rText l 0 none).v).msg.qos := by rw [hs]; unfold sId; split <;> rfl
        unfold fldE
        rw [if_neg (by rw [hkk]; decide), if_neg (by rw [hkk]; decide), if_pos hkk, htt, hqq]
        show (((txtE (rText l 0 none).v ++ (if (uTopic (pPub (pKind 3) fl) (rText l 0 none).v).msg.qos > 0 then _ else []) ++ (rRest l s.a s.f).v).length : Nat) : Int) = _
        rw [hr]
        by_cases hq : (uTopic (pPub (pKind 3) fl) (rText l 0 none).v).msg.qos > 0
        · rw [if_pos hq]
          have hsv : s = ⟨(rNum l (rText l 0 none).a (rText l 0 none).f).a, (rNum l (rText l 0 none).a (rText l 0 none).f).f, uId (uTopic (pPub (pKind 3) fl) (rText l 0 none).v) (rNum l (rText l 0 none).a (rText l 0 none).f).v⟩ := by
            rw [hs]; unfold sId
            rw [if_pos (by simpa using hq)]
          rw [hsv] at gs
          have e3 := num_len gs (by omega)
          have ha : s.a = (rText l 0 none).a + 2 := by rw [hsv]; exact e3.2.1
          simp only [List.length_append, txtE_len, e2, List.length_drop]
          omega
        · rw [if_neg hq]
          have hsv : s = ⟨(rText l 0 none).a, (rText l 0 none).f, uTopic (pPub (pKind 3) fl) (rText l 0 none).v⟩ := by
            rw [hs]; unfold sId
            rw [if_neg (by simpa using hq)]
          have ha : s.a = (rText l 0 none).a := by rw [hsv]
          simp only [List.length_append, txtE_len, List.length_nil, List.length_drop]
          omega
      · rw [if_neg k3] at hf hb ⊢
        have hnum : ∀ p, (cId l p).f = none → (cId l p).a = 2 ∧ (2 : Int) ≤ l.length := fun p h => by
          have := num_len (l := l) (a := 0) (f := none) h (Int.le_refl 0)
          unfold cId
          dsimp only
          omega
        have hrest : ∀ p : Pkt, p.kind ≠ 1 → p.kind ≠ 2 → p.kind ≠ 3 → ¬ (p.kind = 12 ∨ p.kind = 13 ∨ p.kind = 14) → (fldE p).length = 2 + (asksE p.asks).length + (codesE p.codes).length + (filtE' p.filters).length := fun p g1 g2 g3 g4 => by
          unfold fldE
          rw [if_neg g1, if_neg g2, if_neg g3, if_neg g4]
          unfold restE
          simp only [List.length_append, e2]
        by_cases k8 : k = 8
        · rw [if_pos k8] at hf hb ⊢
          dsimp only at hf hb ⊢
          have hstick : (cId l (pKind 8)).f = none := by
            have hm := hf
            simp only [subG] at hm
            by_cases hc : cMore (cId l (pKind 8)).a (cId l (pKind 8)).f l.length none = true
            · unfold cMore at hc; simp at hc; exact hc.1
            · rw [if_neg hc] at hm; exact hm
          obtain ⟨n1, n2⟩ := hnum _ hstick
          obtain ⟨_, qs, g2, g3⟩ := sub_len hw _ _ hf (by omega) (by omega) (by omega)
          rw [g2, hrest _ (by show ¬ (8 : Int) = 1; decide) (by show ¬ (8 : Int) = 2; decide) (by show ¬ (8 : Int) = 3; decide) (by show ¬ ((8 : Int) = 12 ∨ (8 : Int) = 13 ∨ (8 : Int) = 14); decide)]
          show ((2 + (asksE ([] ++ qs)).length + (codesE []).length + (filtE' []).length : Nat) : Int) = _
          simp only [List.nil_append, codesE, filtE', List.length_nil]
          omega
        · rw [if_neg k8] at hf hb ⊢
          by_cases k9 : k = 9
          · rw [if_pos k9] at hf hb ⊢
            dsimp only at hf hb ⊢
            have hstick : (cId l (pKind 9)).f = none := by
              have hm := hf
              simp only [sacG] at hm
              by_cases hc : cMore (cId l (pKind 9)).a (cId l (pKind 9)).f l.length none = true
              · unfold cMore at hc; simp at hc; exact hc.1
              · rw [if_neg hc] at hm; exact hm
            obtain ⟨n1, n2⟩ := hnum _ hstick
            obtain ⟨_, qs, g2, g3⟩ := sac_len _ _ hf (by omega) (by omega) (by omega)
            rw [g2, hrest _ (by show ¬ (9 : Int) = 1; decide) (by show ¬ (9 : Int) = 2; decide) (by show ¬ (9 : Int) = 3; decide) (by show ¬ ((9 : Int) = 12 ∨ (9 : Int) = 13 ∨ (9 : Int) = 14); decide)]
            show ((2 + (asksE []).length + (codesE ([] ++ qs)).length + (filtE' []).length : Nat) : Int) = _
            simp only [List.nil_append, asksE, filtE', List.length_nil]
            omega
          · rw [if_neg k9] at hf hb ⊢
            by_cases k10 : k = 10
            · rw [if_pos k10] at hf hb ⊢
              dsimp only at hf hb ⊢
              have hstick : (cId l (pKind 10)).f = none := uns_stick _ _ hf
              obtain ⟨n1, n2⟩ := hnum _ hstick
              obtain ⟨_, qs, g2, g3⟩ := uns_len hw _ _ hf (by omega) (by omega) (by omega)
              rw [g2, hrest _ (by show ¬ (10 : Int) = 1; decide) (by show ¬ (10 : Int) = 2; decide) (by show ¬ (10 : Int) = 3; decide) (by show ¬ ((10 : Int) = 12 ∨ (10 : Int) = 13 ∨ (10 : Int) = 14); decide)]
              show ((2 + (asksE []).length + (codesE []).length + (filtE' ([] ++ qs)).length : Nat) : Int) = _
              simp only [List.nil_append, asksE, codesE, List.length_nil]
              omega
            · rw [if_neg k10] at hf hb ⊢
              by_cases kk : k = 4 ∨ k = 5 ∨ k = 6 ∨ k = 7 ∨ k = 11
              · rw [if_pos kk] at hf hb ⊢
                dsimp only at hf hb ⊢
                obtain ⟨g1, g2⟩ := end_len hf
                obtain ⟨n1, n2⟩ := hnum _ g1
                have hkk : (cId l (pKind k)).p.kind = k := rfl
                rw [hrest _ (by rw [hkk]; omega) (by rw [hkk]; omega) (by rw [hkk]; omega) (by rw [hkk]; omega)]
                show ((2 + (asksE []).length + (codesE []).length + (filtE' []).length : Nat) : Int) = _
                simp only [asksE, codesE, filtE', List.length_nil]
                omega
              · rw [if_neg kk] at hf hb ⊢
                dsimp only at hf hb ⊢
                obtain ⟨g1, g2⟩ := end_len hf
                have hkk : (pKind k).kind = k := rfl
                unfold fldE
                rw [if_neg (by rw [hkk]; omega), if_neg (by rw [hkk]; omega), if_neg (by rw [hkk]; omega), if_pos (by rw [hkk]; omega)]
                simp only [List.length_nil]
                omega
end Go.Proofs.YthlbcgaegaoanaaGreatDoor.Cr

namespace Go.Proofs.YthlbcgaegaoanaaGreatDoor.Cr
open Go Go.RowKit Go.Proofs.YthlbcgaegaoanaaGreatDoorW.PrintWords Go.Proofs.YthlbcgaegaoanaaGreatDoorW.PrintLast Go.Proofs.YthlbcgaegaoanaaGreatDoorW.PrintMore Go.Proofs.YthlbcgaegaoanaaGreatDoor.Kinds Go.Proofs.YthlbcgaegaoanaaGreatDoor.Utf Go.Proofs.YthlbcgaegaoanaaGreatDoor.Chk Go.Proofs.YthlbcgaegaoanaaGreatDoor.Rdr
set_option linter.unusedVariables false
set_option linter.unusedSimpArgs false
theorem lenE_le : ∀ (j f : Nat) (m : Int), 0 ≤ m → m < 128 ^ (j + 1) → (lenE f m).length ≤ j + 1
  | j, 0, m, h0, h1 => by simp [lenE]
  | 0, f + 1, m, h0, h1 => by
    simp only [lenE]
    rw [if_neg (by simp at h1; omega)]; simp
  | j + 1, f + 1, m, h0, h1 => by
    simp only [lenE]
    by_cases hm : 128 ≤ m
    · rw [if_pos hm]
      have := lenE_le j f (m / 128) (by omega) (by rw [Int.pow_succ] at h1; omega)
      simp only [List.length_cons]; omega
    · rw [if_neg hm]; simp
theorem headG_small (l : List Int) (most : Int) (hw : ∀ i, 0 ≤ rd l i ∧ rd l i ≤ 255) : ∀ (k i : Nat) (n : Int), 1 ≤ i → 0 ≤ n → n < 128 ^ (i - 1) → (headG l most k i n).1 ≠ 0 → ∃ j : Nat, (headG l most k i n).1 = (j : Int) + 2 ∧ 0 ≤ (headG l most k i n).2.1 ∧ (headG l most k i n).2.1 < 128 ^ (j + 1)
  | 0, i, n, hi, h0, h1, h => absurd rfl h
  | k + 1, i, n, hi, h0, h1, h => by
    have hr := hw (i : Int)
    have hpow : (128 : Int) ^ i = 128 ^ (i - 1) * 128 := by rw [← Int.pow_succ]; congr 1; omega
    have hp0 : (0 : Int) < 128 ^ (i - 1) := Int.pow_pos (by decide)
    have hn0 : 0 ≤ n + rd l (i : Int) % 128 * 128 ^ (i - 1) := by
      have := Int.mul_nonneg (show 0 ≤ rd l (i : Int) % 128 by omega) (Int.le_of_lt hp0)
      omega
    have hn1 : n + rd l (i : Int) % 128 * 128 ^ (i - 1) < 128 ^ i := by
      have h2 : rd l (i : Int) % 128 * 128 ^ (i - 1) ≤ 127 * 128 ^ (i - 1) := Int.mul_le_mul_of_nonneg_right (by omega) (Int.le_of_lt hp0)
      rw [hpow]; omega
    simp only [headG] at h ⊢
    by_cases c1 : l.length = i
    · rw [if_pos c1] at h; exact absurd rfl h
    · rw [if_neg c1] at h ⊢
      by_cases c2 : 128 ≤ rd l (i : Int) ∧ i = 4
      · rw [if_pos c2] at h; exact absurd rfl h
      · rw [if_neg c2] at h ⊢
        by_cases c3 : 128 ≤ rd l (i : Int)
        · rw [if_pos c3] at h ⊢
          exact headG_small l most hw k (i + 1) _ (by omega) hn0 (by rw [show i + 1 - 1 = i by omega]; exact hn1) h
        · rw [if_neg c3] at h ⊢
          by_cases c4 : n + rd l (i : Int) % 128 * 128 ^ (i - 1) > most
          · rw [if_pos c4] at h; exact absurd rfl h
          · rw [if_neg c4] at h ⊢
            exact ⟨i - 1, by show (i : Int) + 1 = _; omega, hn0, by rw [show i - 1 + 1 = i by omega]; exact hn1⟩
theorem decP_parts (l : List Int) (most : Int) (hn : (decP l most).n ≠ 0) : ∃ h1 m, headP l (topP most) = (h1, m, none) ∧ h1 ≠ 0 ∧ m ≤ (l.length : Int) - h1 ∧ (decP l most).n = h1 + m ∧ (decP l most).p = (fFields ((l.drop h1.toNat).take m.toNat) (rd l 0 / 16) (rd l 0 % 16)).p ∧ (fFields ((l.drop h1.toNat).take m.toNat) (rd l 0 / 16) (rd l 0 % 16)).f = none ∧ (fFields ((l.drop h1.toNat).take m.toNat) (rd l 0 / 16) (rd l 0 % 16)).bad = none := by
  obtain ⟨hd, hh⟩ : ∃ hd, headP l (topP most) = hd := ⟨_, rfl⟩
  obtain ⟨h1, m, f⟩ := hd
  unfold decP at hn ⊢
  rw [hh] at hn ⊢
  unfold decF at hn ⊢
  cases f with
  | some q => simp at hn
  | none =>
    rw [if_neg (by simp)] at hn ⊢
    by_cases c : h1 = 0 ∨ (l.length : Int) - h1 < m
    · rw [if_pos c] at hn; exact absurd rfl hn
    · rw [if_neg c] at hn ⊢
      dsimp only at hn ⊢
      cases hb : (fFields ((l.drop h1.toNat).take m.toNat) (rd l 0 / 16) (rd l 0 % 16)).bad with
      | some q => simp [hb] at hn
      | none =>
        cases hf : (fFields ((l.drop h1.toNat).take m.toNat) (rd l 0 / 16) (rd l 0 % 16)).f with
        | some q => rw [hf] at hn; simp at hn
        | none =>
          rw [hf] at hn
          simp only [hb, Option.or_none] at hn ⊢
          by_cases hp : pchk (fFields ((l.drop h1.toNat).take m.toNat) (rd l 0 / 16) (rd l 0 % 16)).p = 0
          · rw [if_pos hp] at hn ⊢
            exact ⟨h1, m, rfl, by omega, by omega, rfl, rfl, hf, hb⟩
          · rw [if_neg hp] at hn; exact absurd rfl hn
theorem form_law {b : List Int} {top : Int} (hb : Bytes b) (hn : (decP b top).n ≠ 0) : ((encE (decP b top).p).length : Int) ≤ (decP b top).n ∧ ((fldE (decP b top).p).length : Int) ≤ topP top := by
  have hw : ∀ i, 0 ≤ rd b i ∧ rd b i ≤ 255 := fun i => hb.at_ i
  obtain ⟨h1, m, hh, h0, hm, e1, e2, e3, e4⟩ := decP_parts b top hn
  have hok := headP_ok b (topP top) hw (by rw [hh]; exact h0)
  rw [hh] at hok
  have hne : b.length ≠ 0 := fun e => by unfold headP at hh; rw [if_pos e] at hh; injection hh with a _; exact h0 a.symm
  have hkr : ¬ (rd b 0 / 16 < 1 ∨ rd b 0 / 16 > 14) := fun e => by unfold headP at hh; rw [if_neg hne, if_pos e] at hh; injection hh with a _; exact h0 a.symm
  have hsm := headG_small b (topP top) hw 4 1 0 (by omega) (by omega) (by decide)
  have hG : headG b (topP top) 4 1 0 = (h1, m, none) := by
    unfold headP at hh
    rw [if_neg hne, if_neg hkr] at hh
    by_cases hmay : mayB (rd b 0 / 16) (rd b 0 % 16) = true
    · rw [if_pos hmay] at hh; exact hh
    · rw [if_neg hmay] at hh; injection hh with a _; exact absurd a.symm h0
  rw [hG] at hsm
  obtain ⟨j, j1, j2, j3⟩ := hsm h0
  dsimp only at j1 j2 j3 hok
  have hlb : Bytes ((b.drop h1.toNat).take m.toNat) := fun x hx => hb x (List.mem_of_mem_drop (List.mem_of_mem_take hx))
  have hfl := fields_len hlb (rd b 0 / 16) (rd b 0 % 16) (by omega) (by omega) e3 e4
  rw [← e2, List.length_take, List.length_drop] at hfl
  have hml : ((fldE (decP b top).p).length : Int) = m := by omega
  have hle := lenE_le j 5 m j2 j3
  constructor
  · unfold encE
    simp only [List.length_cons, List.length_append]
    rw [hml, e1]
    omega
  · rw [hml]; exact hok.2.2.2.2.2.1
end Go.Proofs.YthlbcgaegaoanaaGreatDoor.Cr

namespace Go.Proofs.YthlbcgaegaoanaaGreatDoor.Cr
open Go Go.RowKit Go.Proofs.YthlbcgaegaoanaaGreatDoorW.PrintWords Go.Proofs.YthlbcgaegaoanaaGreatDoorW.PrintLast Go.Proofs.YthlbcgaegaoanaaGreatDoorW.PrintMore Go.Proofs.YthlbcgaegaoanaaGreatDoor.Kinds Go.Proofs.YthlbcgaegaoanaaGreatDoor.Utf Go.Proofs.YthlbcgaegaoanaaGreatDoor.Chk Go.Proofs.YthlbcgaegaoanaaGreatDoor.Rdr
set_option linter.unusedVariables false
set_option linter.unusedSimpArgs false
structure PB (p : Pkt) : Prop where
  w : Bytes p.will.payload
  a : Bytes p.pass
  m : Bytes p.msg.payload
theorem Bytes.nil : Bytes [] := fun x h => by simp at h
theorem Bytes.cons {x : Int} {l : List Int} (h : 0 ≤ x ∧ x ≤ 255) (hl : Bytes l) : Bytes (x :: l) := fun y hy => (List.mem_cons.1 hy).elim (fun e => e ▸ h) (hl y)
theorem Bytes.two (n : Int) : Bytes (twoE n) := Bytes.cons (by omega) (Bytes.cons (by omega) Bytes.nil)
theorem Bytes.str (t : ByteArray) : Bytes (bytesOf t) := fun x hx => by
  unfold bytesOf at hx
  obtain ⟨u, _, rfl⟩ := List.mem_map.1 hx
  have := u.toNat_lt
  constructor <;> omega
theorem Bytes.txt (t : ByteArray) : Bytes (txtE t) := (Bytes.two _).app (Bytes.str t)
theorem Bytes.dat {d : List Int} (h : Bytes d) : Bytes (datE d) := (Bytes.two _).app h
theorem Bytes.ite {b : Bool} {l : List Int} (h : Bytes l) : Bytes (if b then l else []) := by cases b <;> simp [h, Bytes.nil]
theorem lenE_bytes : ∀ (f : Nat) (m : Int), 0 ≤ m → Bytes (lenE f m)
  | 0, m, h => Bytes.cons (by omega) Bytes.nil
  | f + 1, m, h => by
    simp only [lenE]
    split
    · exact Bytes.cons (by omega) (lenE_bytes f (m / 128) (by omega))
    · exact Bytes.cons (by omega) Bytes.nil
theorem asksE_bytes : ∀ l : List AskV, Bytes (asksE l)
  | [] => Bytes.nil
  | a :: l => ((Bytes.txt _).app (Bytes.cons (by omega) Bytes.nil)).app (asksE_bytes l)
theorem codesE_bytes : ∀ l : List Int, Bytes (codesE l)
  | [] => Bytes.nil
  | a :: l => Bytes.cons (by omega) (codesE_bytes l)
theorem filtE_bytes : ∀ l : List ByteArray, Bytes (filtE' l)
  | [] => Bytes.nil
  | a :: l => (Bytes.txt _).app (filtE_bytes l)
theorem encE_bytes {p : Pkt} (h : Right p) (hb : PB p) : Bytes (encE p) := by
  have hfr := flagsE_rng h
  have h1 := h.k1; have h2 := h.k14
  have hm := marks_dec p.will.qos (q_cases h.wqos) p.clean p.hasWill p.will.retain p.hasPass p.hasUser
  have hmr : 0 ≤ marksE p ∧ marksE p ≤ 255 := hm.2.2.2.2.2.2.2.2
  have hf : Bytes (fldE p) := by
    unfold fldE
    split
    · unfold connE
      exact ((((((Bytes.txt _).app (Bytes.cons (by omega) (Bytes.cons hmr Bytes.nil))).app (Bytes.two _)).app (Bytes.txt _)).app (Bytes.ite ((Bytes.txt _).app (Bytes.dat hb.w)))).app (Bytes.ite (Bytes.txt _))).app (Bytes.ite (Bytes.dat hb.a))
    · split
      · exact Bytes.cons (by split <;> omega) (Bytes.cons (by omega) Bytes.nil)
      · split
        · refine ((Bytes.txt _).app ?_).app hb.m
          split
          · exact Bytes.two _
          · exact Bytes.nil
        · split
          · exact Bytes.nil
          · exact (((Bytes.two _).app (asksE_bytes _)).app (codesE_bytes _)).app (filtE_bytes _)
  unfold encE
  exact Bytes.cons (by omega) ((lenE_bytes 5 _ (by omega)).app hf)
theorem rData_bytes {l : List Int} (hl : Bytes l) (a : Int) (f : Option (Int × Int)) : Bytes (rData l a f).v := by
  unfold rData
  repeat' split
  · exact Bytes.nil
  · exact fun x hx => hl x (List.mem_of_mem_drop (List.mem_of_mem_take hx))
  · exact Bytes.nil
  · exact Bytes.nil
theorem rRest_bytes {l : List Int} (hl : Bytes l) (a : Int) (f : Option (Int × Int)) : Bytes (rRest l a f).v := by
  unfold rRest
  split
  · exact Bytes.nil
  · exact hl.drop _
theorem noPkt_PB : PB noPkt := ⟨Bytes.nil, Bytes.nil, Bytes.nil⟩
theorem sub_PB (l : List Int) (n : Int) : ∀ (k : Nat) (s : CS), PB s.p → PB (subG l n k s).p
  | 0, s, h => h
  | k + 1, s, h => by
    simp only [subG]
    split
    · exact sub_PB l n k _ ⟨h.w, h.a, h.m⟩
    · exact h
theorem sac_PB (l : List Int) (n : Int) : ∀ (k : Nat) (s : CS), PB s.p → PB (sacG l n k s).p
  | 0, s, h => h
  | k + 1, s, h => by
    simp only [sacG]
    split
    · exact sac_PB l n k _ ⟨h.w, h.a, h.m⟩
    · exact h
theorem uns_PB (l : List Int) (n : Int) : ∀ (k : Nat) (s : CS), PB s.p → PB (unsG l n k s).p
  | 0, s, h => h
  | k + 1, s, h => by
    simp only [unsG]
    split
    · exact uns_PB l n k _ ⟨h.w, h.a, h.m⟩
    · exact h
theorem fields_PB {l : List Int} (hl : Bytes l) (k fl : Int) : PB (fFields l k fl).p := by
  have hk : ∀ k, PB (pKind k) := fun k => ⟨Bytes.nil, Bytes.nil, Bytes.nil⟩
  have hid : ∀ k, PB (cId l (pKind k)).p := fun k => ⟨Bytes.nil, Bytes.nil, Bytes.nil⟩
  unfold fFields
  repeat' split
  · have hw : ∀ s : CS, PB s.p → PB (sWill l s).p := fun s h => by
      unfold sWill
      split
      · exact ⟨rData_bytes hl _ _, h.a, h.m⟩
      · exact h
    have hu : ∀ s : CS, PB s.p → PB (sUser l s).p := fun s h => by
      unfold sUser
      split
      · exact ⟨h.w, h.a, h.m⟩
      · exact h
    have hp : ∀ s : CS, PB s.p → PB (sPass l s).p := fun s h => by
      unfold sPass
      split
      · exact ⟨h.w, rData_bytes hl _ _, h.m⟩
      · exact h
    exact hp _ (hu _ (hw _ ⟨Bytes.nil, Bytes.nil, Bytes.nil⟩))
  · exact ⟨Bytes.nil, Bytes.nil, Bytes.nil⟩
  · unfold fPublish
    dsimp only
    have hs : PB (sId l ⟨(rText l 0 none).a, (rText l 0 none).f, uTopic (pPub (pKind 3) fl) (rText l 0 none).v⟩).p := by
      unfold sId
      split <;> exact ⟨Bytes.nil, Bytes.nil, Bytes.nil⟩
    exact ⟨hs.w, hs.a, rRest_bytes hl _ _⟩
  · exact sub_PB _ _ _ _ (hid 8)
  · exact sac_PB _ _ _ _ (hid 9)
  · exact uns_PB _ _ _ _ (hid 10)
  · exact hid k
  · exact hk k
theorem decP_PB {b : List Int} (hb : Bytes b) (top : Int) (hn : (decP b top).n ≠ 0) : PB (decP b top).p := by
  obtain ⟨h1, m, hh, h0, hm, e1, e2, e3, e4⟩ := decP_parts b top hn
  rw [e2]
  exact fields_PB (fun x hx => hb x (List.mem_of_mem_drop (List.mem_of_mem_take hx))) _ _
theorem right_sizes {p : Pkt} (h : Right p) : p.asks.length ≤ (fldE p).length ∧ p.filters.length ≤ (fldE p).length ∧ p.codes.length ≤ (fldE p).length ∧ p.msg.payload.length ≤ (fldE p).length := by
  have la := asks_len p.asks; have lc := codesE_len p.codes; have lf := fils_len p.filters
  by_cases k3 : p.kind = 3
  · have g8 := h.f8 (by omega); have g9 := h.f9 (by omega); have g10 := h.f10 (by omega)
    rw [g8, g9, g10]
    refine ⟨Nat.zero_le _, Nat.zero_le _, Nat.zero_le _, ?_⟩
    unfold fldE
    rw [if_neg (by omega), if_neg (by omega), if_pos k3]
    simp only [List.length_append]; omega
  · have gm := (h.f3 k3).2
    have gz : p.msg.payload.length = 0 := by rw [gm]; rfl
    by_cases kk : p.kind = 8 ∨ p.kind = 9 ∨ p.kind = 10
    · have e : fldE p = restE p := by unfold fldE; rw [if_neg (by omega), if_neg (by omega), if_neg k3, if_neg (by omega)]
      rw [e]
      unfold restE
      simp only [List.length_append]
      omega
    · have g8 := h.f8 (by omega); have g9 := h.f9 (by omega); have g10 := h.f10 (by omega)
      rw [g8, g9, g10]
      exact ⟨Nat.zero_le _, Nat.zero_le _, Nat.zero_le _, by omega⟩
end Go.Proofs.YthlbcgaegaoanaaGreatDoor.Cr

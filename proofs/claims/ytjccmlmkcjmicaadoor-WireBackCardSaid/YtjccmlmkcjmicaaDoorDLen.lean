/- Plain: what the print says of wire.Length comes to one function of the bytes (each from 0 to 255); and what WireShort asks of it. -/
import Derived.Test.YtjccmlmkcjmicaaDoorPWireBackx1
import Derived.Test.YtjccmlmkcjmicaaDoorPuts
namespace Go.Proofs.YtjccmlmkcjmicaaDoor.Len
set_option linter.unusedSimpArgs false
open Go Go.RowKit Go.Proofs.YtjccmlmkcjmicaaDoor.PWireBack Go.Proofs.YtjccmlmkcjmicaaDoor.Rdr Go.Proofs.YtjccmlmkcjmicaaDoorW.PrintWords Go.Proofs.YtjccmlmkcjmicaaDoorW.PrintMore

/-- the length at the beginning of bytes, from byte i on; n: what was read so far -/
def lenG (xs : List Int) : Nat → Nat → Int → Int × Int × Int
  | 0, _, _ => (0, 0, 12)
  | f + 1, i, n => if xs.length ≤ i then (0, 0, 10) else if rd xs i < 128 then (n + rd xs i * 128 ^ i, (i : Int) + 1, 0) else lenG xs f (i + 1) (n + (rd xs i - 128) * 128 ^ i)
def lenS (xs : List Int) : Int × Int × Int := lenG xs 4 0 0

theorem wraps_i64 (n : Int) (h₀ : 0 ≤ n) (h₁ : n < 2 ^ 62) : IntKind.i64.wrap n = n := by rw [IntKind.wrap_i64]; omega
theorem or_comm (k : IntKind) (a b : Int) : bits .or k a b = bits .or k b a := by simp only [bits, BitVec.or_comm]
theorem and127 (b : Int) (h0 : 0 ≤ b) (h1 : b ≤ 255) : bits .and .u8 b 127 = b % 128 := bits_mask .u8 8 (by decide) wraps_u8 7 (by decide) b h0 (by omega)
theorem or_shift (i : Nat) (hi : i ≤ 50) (n x : Int) (hn0 : 0 ≤ n) (hn : n < 2 ^ i) (hx0 : 0 ≤ x) (hx : x * 2 ^ i < 2 ^ 62) : bits .or .i64 n (x * 2 ^ i) = n + x * 2 ^ i := by
  have hp : (0 : Int) < 2 ^ i := Int.pow_pos (by omega)
  have hple : (2 : Int) ^ i ≤ 2 ^ 62 := by exact_mod_cast Nat.pow_le_pow_right (by decide) (by omega)
  rw [or_comm, bits_join .i64 62 (by decide) wraps_i64 i (x * 2 ^ i) n (Int.mul_nonneg hx0 (by omega)) (by simp) hx hn0 hn (by omega)]
  omega
theorem step_eval (i : Nat) (hi : i < 4) (n b : Int) (hn0 : 0 ≤ n) (hn : n < 128 ^ i) (h0 : 0 ≤ b) (h1 : b ≤ 255) :
    bits .or .i64 n (shl .i64 (wrap64 (bits .and .u8 b 127)) (wrap64 (7 * (i : Int)))) = n + b % 128 * 128 ^ i := by
  rw [and127 b h0 h1, show wrap64 (b % 128) = b % 128 by unfold wrap64; omega, show wrap64 (7 * (i : Int)) = ((7 * i : Nat) : Int) by unfold wrap64; omega]
  have hb : 0 ≤ b % 128 ∧ b % 128 < 128 := by omega
  have e128 : (128 : Int) ^ i = 2 ^ (7 * i) := by rw [show (128 : Int) = 2 ^ 7 by rfl, ← Int.pow_mul]
  unfold shl
  have hm : min ((7 * i : Nat) : Int).toNat IntKind.i64.bits = 7 * i := by simp [IntKind.bits]; omega
  rw [hm]
  have hsmall : b % 128 * 2 ^ (7 * i) < 2 ^ 62 := by
    have : (2 : Int) ^ (7 * i) ≤ 2 ^ 21 := by exact_mod_cast Nat.pow_le_pow_right (by decide) (by omega)
    have h3 : b % 128 * 2 ^ (7 * i) ≤ 127 * 2 ^ 21 := Int.mul_le_mul (by omega) this (Int.le_of_lt (Int.pow_pos (by omega))) (by omega)
    omega
  rw [wraps_i64 _ (Int.mul_nonneg hb.1 (Int.le_of_lt (Int.pow_pos (by omega)))) hsmall, e128]
  exact or_shift (7 * i) (by omega) n (b % 128) hn0 (by rw [← e128]; exact hn) hb.1 hsmall
theorem rd_range (xs : List Int) (hw : ∀ x ∈ xs, 0 ≤ x ∧ x ≤ 255) (i : Int) : 0 ≤ rd xs i ∧ rd xs i ≤ 255 := by
  unfold rd
  rw [List.getD_eq_getElem?_getD]
  rcases Nat.lt_or_ge i.toNat xs.length with h | h
  · rw [List.getElem?_eq_getElem h]; exact hw _ (List.getElem_mem h)
  · rw [List.getElem?_eq_none h]; simp
theorem next_lt (i : Nat) (n b : Int) (hn : n < 128 ^ i) (hb : b < 128) : n + b * 128 ^ i < 128 ^ (i + 1) := by
  have hp : (0 : Int) < 128 ^ i := Int.pow_pos (by omega)
  have : b * 128 ^ i ≤ 127 * 128 ^ i := Int.mul_le_mul_of_nonneg_right (by omega) (Int.le_of_lt hp)
  rw [Int.pow_succ]; omega
theorem wire_eval (xs : List Int) (hw : ∀ x ∈ xs, 0 ≤ x ∧ x ≤ 255) : ∀ (f i k : Nat) (n : Int), f + i = 4 → f < k → i ≤ xs.length → 0 ≤ n → n < 128 ^ i → wire_Length.l0 k xs n (i : Int) = some (lenG xs f i n)
  | 0, i, k, n, hfi, hk, _, _, _ => by
    obtain ⟨k, rfl⟩ : ∃ m, k = m + 1 := ⟨k - 1, by omega⟩
    simp only [wire_Length.l0]; rw [if_neg (by omega)]; rfl
  | f + 1, i, k, n, hfi, hk, hix, hn0, hn => by
    obtain ⟨k, rfl⟩ : ∃ m, k = m + 1 := ⟨k - 1, by omega⟩
    have hb := rd_range xs hw (i : Int)
    simp only [wire_Length.l0, lenG]
    rw [if_pos (by omega)]
    rw [show wrap64 ((i : Int) + 1) = (i : Int) + 1 by unfold wrap64; omega, step_eval i (by omega) n _ hn0 hn hb.1 hb.2]
    by_cases hl : xs.length ≤ i
    · rw [if_pos (show (i : Int) = (xs.length : Int) by omega), if_pos hl]
    · have e7 : wrap64 (7 * (i : Int)) = 7 * (i : Int) := by unfold wrap64; omega
      rw [if_neg (by omega), if_pos (by omega), if_pos (by omega), if_pos (by rw [e7]; omega), if_neg hl]
      by_cases hc : rd xs (i : Int) < 128
      · rw [if_pos hc, if_pos hc, show rd xs (i : Int) % 128 = rd xs (i : Int) by omega]
      · rw [if_neg hc, if_neg hc, show rd xs (i : Int) % 128 = rd xs (i : Int) - 128 by omega]
        have hp : (0 : Int) < 128 ^ i := Int.pow_pos (by omega)
        exact wire_eval xs hw f (i + 1) k _ (by omega) (by omega) (by omega) (Int.add_nonneg hn0 (Int.mul_nonneg (by omega) (Int.le_of_lt hp))) (next_lt i n _ hn (by omega))

theorem rd_app (xs ys : List Int) (i : Nat) (h : i < xs.length) : rd (xs ++ ys) (i : Int) = rd xs (i : Int) := by
  unfold rd
  simp only [Int.toNat_natCast, List.getD_eq_getElem?_getD]
  rw [List.getElem?_append_left h]
theorem rd_last (xs : List Int) (x : Int) : rd (xs ++ [x]) (xs.length : Int) = x := by
  unfold rd
  simp [List.getD_eq_getElem?_getD]

/-- the three ways -/
theorem lenG_ways (xs : List Int) (hw : ∀ x ∈ xs, 0 ≤ x ∧ x ≤ 255) : ∀ (f i : Nat) (n : Int), f + i = 4 → i ≤ xs.length → 0 ≤ n → n < 128 ^ i →
    (lenG xs f i n = (0, 0, 10) ∧ xs.length < 4 ∧ ∃ m, 0 ≤ m ∧ lenG (xs ++ [0]) f i n = (m, (xs.length : Int) + 1, 0)) ∨ (lenG xs f i n = (0, 0, 12) ∧ 4 ≤ xs.length) ∨
    ∃ (m : Int) (k : Nat), lenG xs f i n = (m, (k : Int), 0) ∧ 1 ≤ k ∧ k ≤ 4 ∧ k ≤ xs.length ∧ 0 ≤ m ∧ m < 128 ^ k
  | 0, i, n, hfi, hi, h0, h1 => .inr (.inl ⟨rfl, by omega⟩)
  | f + 1, i, n, hfi, hi, h0, h1 => by
    have hp : (0 : Int) < 128 ^ i := Int.pow_pos (by omega)
    by_cases hl : xs.length ≤ i
    · have he : i = xs.length := by omega
      subst he
      refine .inl ⟨by simp only [lenG, if_pos hl], by omega, n, h0, ?_⟩
      simp only [lenG]
      rw [if_neg (by simp), rd_last, if_pos (by omega)]
      simp
    · have hb := rd_range xs hw (i : Int)
      by_cases hc : rd xs (i : Int) < 128
      · refine .inr (.inr ⟨n + rd xs (i : Int) * 128 ^ i, i + 1, by simp only [lenG, if_neg hl, if_pos hc]; rfl, by omega, by omega, by omega, ?_, next_lt i n _ h1 hc⟩)
        exact Int.add_nonneg h0 (Int.mul_nonneg hb.1 (by omega))
      · have hr := lenG_ways xs hw f (i + 1) (n + (rd xs (i : Int) - 128) * 128 ^ i) (by omega) (by omega) (Int.add_nonneg h0 (Int.mul_nonneg (by omega) (by omega))) (next_lt i n _ h1 (by omega))
        have e1 : lenG xs (f + 1) i n = lenG xs f (i + 1) (n + (rd xs (i : Int) - 128) * 128 ^ i) := by simp only [lenG, if_neg hl, if_neg hc]
        have e2 : lenG (xs ++ [0]) (f + 1) i n = lenG (xs ++ [0]) f (i + 1) (n + (rd xs (i : Int) - 128) * 128 ^ i) := by
          simp only [lenG]
          rw [rd_app xs [0] i (by omega), if_neg (by simp; omega), if_neg hc]
        rw [e1, e2]
        exact hr
theorem lenS_ways (xs : List Int) (hw : ∀ x ∈ xs, 0 ≤ x ∧ x ≤ 255) :
    (lenS xs = (0, 0, 10) ∧ xs.length < 4 ∧ ∃ m, 0 ≤ m ∧ lenS (xs ++ [0]) = (m, (xs.length : Int) + 1, 0)) ∨ (lenS xs = (0, 0, 12) ∧ 4 ≤ xs.length) ∨
    ∃ (m : Int) (k : Nat), lenS xs = (m, (k : Int), 0) ∧ 1 ≤ k ∧ k ≤ 4 ∧ k ≤ xs.length ∧ 0 ≤ m ∧ m < 128 ^ k := lenG_ways xs hw 4 0 0 rfl (Nat.zero_le _) (by omega) (by omega)
theorem length_eval (xs : List Int) (hw : ∀ x ∈ xs, 0 ≤ x ∧ x ≤ 255) : wire_Length.f 6 xs = some (lenS xs) := wire_eval xs hw 4 0 6 0 rfl (by omega) (Nat.zero_le _) (by omega) (by omega)

theorem encL_len : ∀ (f k : Nat) (m : Int), 0 ≤ m → m < 128 ^ k → 1 ≤ k → (encL f m).length ≤ k
  | 0, k, m, _, _, hk => hk
  | f + 1, k, m, h0, h1, hk => by
    simp only [encL]
    by_cases hm : 128 ≤ m
    · rw [if_pos hm]
      obtain ⟨j, rfl⟩ : ∃ j, k = j + 1 := ⟨k - 1, by omega⟩
      rw [Int.pow_succ] at h1
      have hj : 1 ≤ j := by
        rcases Nat.eq_zero_or_pos j with h | h
        · subst h; simp at h1; omega
        · exact h
      have := encL_len f j (m / 128) (by omega) (by omega) hj
      simp only [List.length_cons]
      omega
    · rw [if_neg hm]; exact hk
theorem pow_le4 (k : Nat) (hk : k ≤ 4) : (128 : Int) ^ k ≤ 268435456 := by
  have h1 : (128 : Nat) ^ k ≤ 268435456 := Nat.pow_le_pow_right (n := 128) (by decide) hk
  have h2 : ((128 ^ k : Nat) : Int) ≤ ((268435456 : Nat) : Int) := Int.ofNat_le.2 h1
  rwa [Int.natCast_pow] at h2
theorem lenCl_id (n : Int) (h0 : 0 ≤ n) (h1 : n ≤ 268435455) : lenCl n = n := by unfold lenCl; rw [if_neg (by omega), if_neg (by omega)]
end Go.Proofs.YtjccmlmkcjmicaaDoor.Len

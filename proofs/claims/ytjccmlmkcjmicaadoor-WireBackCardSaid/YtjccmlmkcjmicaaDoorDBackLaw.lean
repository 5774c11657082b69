/- Plain: what WireBack asks: bytes joined, a remainder, a length laid and read again. No program in sight. -/
import Derived.Test.YtjccmlmkcjmicaaDoorDLen
import Derived.Test.YtjccmlmkcjmicaaDoorRdrTake
namespace Go.Proofs.YtjccmlmkcjmicaaDoor.BackLaw
open Go Go.RowKit Go.Proofs.YtjccmlmkcjmicaaDoor.PWireBack Go.Proofs.YtjccmlmkcjmicaaDoorW.PrintWords Go.Proofs.YtjccmlmkcjmicaaDoorW.PrintMore Go.Proofs.YtjccmlmkcjmicaaDoor.Rdr Go.Proofs.YtjccmlmkcjmicaaDoor.Len
set_option linter.unusedVariables false
set_option linter.unusedSimpArgs false

theorem join_step (x c : Int) (hx0 : 0 ≤ x) (hx : x < 2 ^ 40) (hc0 : 0 ≤ c) (hc : c < 256) : Go.bits .or .i64 (wrap64 (x * 256)) (wrap64 c) = x * 256 + c := by
  have e1 : wrap64 (x * 256) = x * 2 ^ 8 := by unfold wrap64; omega
  have e2 : wrap64 c = c := by unfold wrap64; omega
  rw [e1, e2, Len.or_comm, or_shift 8 (by omega) c x hc0 (by omega) hx0 (by omega)]
  omega
theorem join2 (a b : Int) (ha0 : 0 ≤ a) (ha : a < 256) (hb0 : 0 ≤ b) (hb : b < 256) : joinG [a, b] = a * 256 + b := by
  unfold joinG
  simp only [List.foldl]
  rw [join_step 0 a (by omega) (by omega) ha0 ha, join_step _ b (by omega) (by omega) hb0 hb]
  omega
theorem join4 (a b c d : Int) (ha0 : 0 ≤ a) (ha : a < 256) (hb0 : 0 ≤ b) (hb : b < 256) (hc0 : 0 ≤ c) (hc : c < 256) (hd0 : 0 ≤ d) (hd : d < 256) : joinG [a, b, c, d] = a * 16777216 + b * 65536 + c * 256 + d := by
  unfold joinG
  simp only [List.foldl]
  rw [join_step 0 a (by omega) (by omega) ha0 ha, join_step _ b (by omega) (by omega) hb0 hb, join_step _ c (by omega) (by omega) hc0 hc, join_step _ d (by omega) (by omega) hd0 hd]
  omega
theorem num2 (n : Int) : joinG [n / 256 % 256, n % 256] = n % 65536 := by
  rw [join2 _ _ (by omega) (by omega) (by omega) (by omega)]; omega
theorem num4 (n : Int) : joinG [n / 16777216 % 256, n / 65536 % 256, n / 256 % 256, n % 256] = n % 4294967296 := by
  rw [join4 _ _ _ _ (by omega) (by omega) (by omega) (by omega) (by omega) (by omega) (by omega) (by omega)]; omega
theorem mod_eval (n m : Int) (hm : 0 < m) (hm2 : m ≤ 4294967296) : crierlaw1_mod.f n m = some (n % m) := by
  unfold crierlaw1_mod.f
  rw [if_neg (by omega)]
  have h1 := Int.tmod_eq_emod (a := n) (b := m)
  have h2 := Int.emod_nonneg n (show m ≠ 0 by omega)
  have h3 := Int.emod_lt_of_pos n hm
  have hr : -m < Int.tmod n m ∧ Int.tmod n m < m := by
    rw [h1]; split <;> omega
  have e : wrap64 (Int.tmod n m + m) = Int.tmod n m + m := by unfold wrap64; omega
  rw [e, Int.tmod_eq_emod_of_nonneg (by omega), Int.add_emod_right, h1]
  congr 1
  split
  · rw [show (n % m - ((0 : Nat) : Int)) = n % m by omega, Int.emod_emod_of_dvd _ (Int.dvd_refl m)]
  · have : (m.natAbs : Int) = m := by omega
    rw [this, Int.sub_emod_right, Int.emod_emod_of_dvd _ (Int.dvd_refl m)]

theorem or128_all : ∀ v : Fin 256, Go.bits .or .u8 ((v.val : Nat) : Int) 128 = ((v.val % 128 + 128 : Nat) : Int) := by decide +kernel
theorem or128 (m : Int) (h0 : 0 ≤ m) : Go.bits .or .u8 (m % 256) 128 = m % 128 + 128 := by
  have h := or128_all ⟨(m % 256).toNat, by omega⟩
  simp only at h
  rw [show (((m % 256).toNat : Nat) : Int) = m % 256 by omega] at h
  rw [h]; omega
theorem encL_range : ∀ (f : Nat) (m : Int), 0 ≤ m → ∀ x ∈ encL f m, 0 ≤ x ∧ x ≤ 255
  | 0, m, h, x, hx => by simp [encL] at hx; omega
  | f + 1, m, h, x, hx => by
    simp only [encL] at hx
    by_cases hm : 128 ≤ m
    · rw [if_pos hm] at hx
      rcases List.mem_cons.1 hx with rfl | hx
      · rw [or128 m h]; omega
      · exact encL_range f (m / 128) (by omega) x hx
    · rw [if_neg hm] at hx; simp at hx; omega
/-- a length that was laid is read again, whatever is behind it -/
theorem lenG_enc : ∀ (f i g : Nat) (m n : Int) (xs pre more : List Int), xs = pre ++ encL g m ++ more → pre.length = i → f + i = 4 → 0 ≤ m → m < 128 ^ f → f ≤ g → 1 ≤ f → lenG xs f i n = (n + m * 128 ^ i, (i : Int) + (encL g m).length, 0)
  | 0, i, g, m, n, xs, pre, more, hx, hp, hf, h0, h1, hg, h1f => absurd h1f (by omega)
  | f + 1, i, g, m, n, xs, pre, more, hx, hp, hf, h0, h1, hg, _ => by
    obtain ⟨g, rfl⟩ : ∃ j, g = j + 1 := ⟨g - 1, by omega⟩
    have hrd : ∀ (b : Int) (t : List Int), encL (g + 1) m = b :: t → rd xs (i : Int) = b ∧ i < xs.length := fun b t e => by
      constructor
      · unfold rd
        rw [hx, e]
        simp only [Int.toNat_natCast, List.getD_eq_getElem?_getD]
        rw [List.append_assoc, List.getElem?_append_right (by omega), hp]
        simp
      · rw [hx, e]; simp; omega
    simp only [lenG]
    by_cases hm : 128 ≤ m
    · have e : encL (g + 1) m = Go.bits .or .u8 (m % 256) 128 :: encL g (m / 128) := by simp only [encL, if_pos hm]
      obtain ⟨r, hl⟩ := hrd _ _ e
      rw [or128 m h0] at r
      have hf1 : f ≠ 0 := by rintro rfl; simp at h1; omega
      rw [if_neg (by omega), r, if_neg (by omega), lenG_enc f (i + 1) g (m / 128) _ xs (pre ++ [m % 128 + 128]) more (by rw [hx, e, or128 m h0]; simp) (by simp [hp]) (by omega) (by omega) (by rw [Int.pow_succ] at h1; omega) (by omega) (by omega), e]
      have hpow : (128 : Int) ^ (i + 1) = 128 ^ i * 128 := Int.pow_succ 128 i
      refine Prod.ext ?_ (Prod.ext ?_ rfl)
      · simp only
        rw [hpow, show m % 128 + 128 - 128 = m % 128 by omega, Int.add_assoc, show m / 128 * (128 ^ i * 128) = (m / 128 * 128) * 128 ^ i by rw [Int.mul_comm (128 ^ i) 128, Int.mul_assoc], ← Int.add_mul, show m % 128 + m / 128 * 128 = m by omega]
      · simp only [List.length_cons]; omega
    · have e : encL (g + 1) m = [m % 256] := by simp only [encL, if_neg hm]
      obtain ⟨r, hl⟩ := hrd _ _ e
      rw [if_neg (by omega), r, if_pos (by omega), e, show m % 256 = m by omega]
      rfl
theorem lenS_enc (m : Int) (h0 : 0 ≤ m) (h1 : m ≤ 268435455) (more : List Int) : lenS (encL 5 m ++ more) = (m, ((encL 5 m).length : Int), 0) := by
  have := lenG_enc 4 0 5 m 0 (encL 5 m ++ more) [] more (by simp) rfl rfl h0 (by omega) (by omega) (by omega)
  unfold lenS
  rw [this]; simp
end Go.Proofs.YtjccmlmkcjmicaaDoor.BackLaw

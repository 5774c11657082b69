/- Plain: what the print says of crierref1.Check comes to Utf.chk, for every text. No condition. -/
import Derived.Test.YtjccmlmkcjmicaaUtf
import Derived.Test.YtjccmlmkcjmicaaPWireChecksx
import Derived.Test.YtjccmlmkcjmicaaPWireChecksx3
namespace Go.Proofs.Ytjccmlmkcjmicaa.RefChk
set_option linter.unusedSimpArgs false
open Go Go.RowKit Go.Proofs.Ytjccmlmkcjmicaa.Utf Go.Proofs.Ytjccmlmkcjmicaa.PWireChecks Go.Proofs.YtjccmlmkcjmicaaW.PrintWords

theorem bt_at0 (s : ByteArray) (i : Nat) : bt s (i : Int) = (at0 s i : Int) := by
  unfold bt at0
  by_cases h : i < s.size
  · rw [dif_pos (by simpa using h), dif_pos h]; simp
  · rw [dif_neg (by simpa using h), dif_neg h]; rfl
theorem at_eval (s : ByteArray) (i : Nat) : crierref1_at.f s (i : Int) = some (at0 s i : Int) := by
  unfold crierref1_at.f
  by_cases h : i < s.size
  · rw [if_pos (by omega), if_pos (by omega), bt_at0]
  · rw [if_neg (by omega)]; unfold at0; rw [dif_neg h]; rfl
theorem within_eval (c a b : Nat) : crierref1_within.f (c : Int) (a : Int) (b : Int) = some (decide (a ≤ c ∧ c ≤ b)) := by
  unfold crierref1_within.f
  by_cases h : a ≤ c
  · rw [if_pos (by omega)]; congr 1; rw [Bool.eq_iff_iff]; simp; omega
  · rw [if_neg (by omega)]; congr 1; rw [eq_comm, decide_eq_false_iff_not]; omega
def conts (s : ByteArray) (i : Nat) : Nat → Bool
  | 0 => true
  | n + 1 => cont (at0 s i) && conts s (i + 1) n
theorem wrap_nat (i : Nat) (h : i < 9223372036854775808) : wrap64 (i : Int) = (i : Int) := by unfold wrap64; omega
theorem tail_eval (s : ByteArray) (n : Nat) : ∀ (k i : Nat), n < k → i + n < 1000000 → crierref1_tail.l0 k s ((i + n : Nat) : Int) (i : Int) = some (conts s i n) := by
  induction n with
  | zero =>
    intro k i hk _
    obtain ⟨k, rfl⟩ : ∃ m, k = m + 1 := ⟨k - 1, by omega⟩
    simp only [crierref1_tail.l0]; rw [if_neg (by omega)]; rfl
  | succ n ih =>
    intro k i hk hi
    obtain ⟨k, rfl⟩ : ∃ m, k = m + 1 := ⟨k - 1, by omega⟩
    simp only [crierref1_tail.l0]; rw [if_pos (by omega), at_eval]
    simp only [Option.bind_some]
    rw [show (128 : Int) = ((128 : Nat) : Int) from rfl, show (191 : Int) = ((191 : Nat) : Int) from rfl, within_eval]
    simp only [Option.bind_some]
    have e : wrap64 ((i : Int) + 1) = ((i + 1 : Nat) : Int) := by rw [show (i : Int) + 1 = ((i + 1 : Nat) : Int) by omega, wrap_nat _ (by omega)]
    cases hc : cont (at0 s i)
    · rw [if_neg (by unfold cont at hc; rw [hc]; exact Bool.false_ne_true)]; simp [conts, hc]
    · rw [if_pos (by unfold cont at hc; exact hc), e, show i + (n + 1) = (i + 1) + n by omega, ih k (i + 1) (by omega) (by omega)]; simp [conts, hc]
theorem tail_f (s : ByteArray) (k i a n : Nat) (hk : n < k) (hi : i + a + n < 1000000) (a' b' : Int) (ha : a' = (a : Int)) (hb : b' = ((a + n : Nat) : Int)) :
    crierref1_tail.f k s (wrap64 ((i : Int) + a')) (wrap64 ((i : Int) + b')) = some (conts s (i + a) n) := by
  subst ha hb
  unfold crierref1_tail.f
  rw [show (i : Int) + (a : Int) = ((i + a : Nat) : Int) by omega, show (i : Int) + ((a + n : Nat) : Int) = ((i + a + n : Nat) : Int) by omega, wrap_nat _ (by omega), wrap_nat _ (by omega)]
  exact tail_eval s n k (i + a) hk hi
section
variable (s : ByteArray) (i : Nat) (hi : i < 900000)
include hi
theorem tk (k a n : Nat) (hk : n < k) (ha : a ≤ 4) (hn : n ≤ 4) (a' b' : Int) (ha' : a' = (a : Int)) (hb' : b' = ((a + n : Nat) : Int)) :
    crierref1_tail.f k s (wrap64 ((i : Int) + a')) (wrap64 ((i : Int) + b')) = some (conts s (i + a) n) := tail_f s k i a n hk (by omega) a' b' ha' hb'
theorem j6_eval (k a b : Nat) (hk : 4 ≤ k) (x : Bool) : crierref1_Point.j6 (k + 1) s i a b x = some (if x || (decide (a = 244) && (decide (128 ≤ b ∧ b ≤ 143) && conts s (i + 2) 2)) then 4 else 0) := by
  have w8 := within_eval b 128 143
  have t := tk s i hi k 2 2 (by omega) (by omega) (by omega) 2 4 rfl rfl
  simp only [Int.cast_ofNat_Int] at w8
  simp only [crierref1_Point.j6, w8, t, Option.bind_some]
  cases x
  · by_cases ha : a = 244
    · rw [if_neg (by simp), if_pos (by omega)]
      by_cases hb : 128 ≤ b ∧ b ≤ 143
      · rw [if_pos (by simp [hb])]; cases conts s (i + 2) 2 <;> simp [ha, hb]
      · rw [if_neg (by simp [hb])]; simp [hb]
    · rw [if_neg (by simp), if_neg (by omega)]; simp [ha]
  · simp
theorem j5_eval (k a b : Nat) (hk : 4 ≤ k) (x : Bool) : crierref1_Point.j5 (k + 2) s i a b x = some (if x || (decide (241 ≤ a ∧ a ≤ 243) && conts s (i + 1) 3) || (decide (a = 244) && (decide (128 ≤ b ∧ b ≤ 143) && conts s (i + 2) 2)) then 4 else 0) := by
  have w := within_eval a 241 243
  have t := tk s i hi (k + 1) 1 3 (by omega) (by omega) (by omega) 1 4 rfl rfl
  simp only [Int.cast_ofNat_Int] at w
  simp only [crierref1_Point.j5, w, t, Option.bind_some, j6_eval s i hi k a b hk]
  cases x
  · by_cases ha : 241 ≤ a ∧ a ≤ 243
    · rw [if_neg (by simp), if_pos (by simp [ha])]; simp [ha]
    · rw [if_neg (by simp), if_neg (by simp [ha])]; simp [ha]
  · simp
theorem j4_eval (k a b : Nat) (hk : 4 ≤ k) (x : Bool) : crierref1_Point.j4 (k + 3) s i a b x = some (if x then 3 else if (decide (a = 240) && (decide (144 ≤ b ∧ b ≤ 191) && conts s (i + 2) 2)) || (decide (241 ≤ a ∧ a ≤ 243) && conts s (i + 1) 3) || (decide (a = 244) && (decide (128 ≤ b ∧ b ≤ 143) && conts s (i + 2) 2)) then 4 else 0) := by
  have w := within_eval b 144 191
  have t := tk s i hi (k + 2) 2 2 (by omega) (by omega) (by omega) 2 4 rfl rfl
  simp only [Int.cast_ofNat_Int] at w
  simp only [crierref1_Point.j4, w, t, Option.bind_some, j5_eval s i hi k a b hk]
  cases x
  · by_cases ha : a = 240
    · rw [if_neg (by simp), if_pos (by omega)]
      by_cases hb : 144 ≤ b ∧ b ≤ 191
      · rw [if_pos (by simp [hb])]; simp [ha, hb]
      · rw [if_neg (by simp [hb])]; simp [hb]
    · rw [if_neg (by simp), if_neg (by omega)]; simp [ha]
  · simp
theorem j3_eval (k a b : Nat) (hk : 4 ≤ k) (x : Bool) : crierref1_Point.j3 (k + 4) s i a b x = some (if x || (decide (238 ≤ a ∧ a ≤ 239) && conts s (i + 1) 2) then 3 else if (decide (a = 240) && (decide (144 ≤ b ∧ b ≤ 191) && conts s (i + 2) 2)) || (decide (241 ≤ a ∧ a ≤ 243) && conts s (i + 1) 3) || (decide (a = 244) && (decide (128 ≤ b ∧ b ≤ 143) && conts s (i + 2) 2)) then 4 else 0) := by
  have w := within_eval a 238 239
  have t := tk s i hi (k + 3) 1 2 (by omega) (by omega) (by omega) 1 3 rfl rfl
  simp only [Int.cast_ofNat_Int] at w
  simp only [crierref1_Point.j3, w, t, Option.bind_some, j4_eval s i hi k a b hk]
  cases x
  · by_cases ha : 238 ≤ a ∧ a ≤ 239
    · rw [if_neg (by simp), if_pos (by simp [ha])]; simp [ha]
    · rw [if_neg (by simp), if_neg (by simp [ha])]; simp [ha]
  · simp
theorem j2_eval (k a b : Nat) (hk : 4 ≤ k) (x : Bool) : crierref1_Point.j2 (k + 5) s i a b x = some (if x || (decide (a = 237) && (decide (128 ≤ b ∧ b ≤ 159) && conts s (i + 2) 1)) || (decide (238 ≤ a ∧ a ≤ 239) && conts s (i + 1) 2) then 3 else if (decide (a = 240) && (decide (144 ≤ b ∧ b ≤ 191) && conts s (i + 2) 2)) || (decide (241 ≤ a ∧ a ≤ 243) && conts s (i + 1) 3) || (decide (a = 244) && (decide (128 ≤ b ∧ b ≤ 143) && conts s (i + 2) 2)) then 4 else 0) := by
  have w := within_eval b 128 159
  have t := tk s i hi (k + 4) 2 1 (by omega) (by omega) (by omega) 2 3 rfl rfl
  have j4 := j4_eval s i hi (k + 1) a b (by omega) true
  simp only [Int.cast_ofNat_Int] at w
  simp only [crierref1_Point.j2, w, t, Option.bind_some, j3_eval s i hi k a b hk]
  cases x
  · by_cases ha : a = 237
    · rw [if_neg (by simp), if_pos (by omega)]
      by_cases hb : 128 ≤ b ∧ b ≤ 159
      · rw [if_pos (by simp [hb])]; simp [ha, hb]
      · rw [if_neg (by simp [hb])]; simp [hb]
    · rw [if_neg (by simp), if_neg (by omega)]; simp [ha]
  · rw [if_pos rfl]; rw [show k + 4 = k + 1 + 3 by omega, j4]; simp
theorem j1_eval (k a b : Nat) (hk : 4 ≤ k) (x : Bool) : crierref1_Point.j1 (k + 6) s i a b x = some (if x || (decide (225 ≤ a ∧ a ≤ 236) && conts s (i + 1) 2) || (decide (a = 237) && (decide (128 ≤ b ∧ b ≤ 159) && conts s (i + 2) 1)) || (decide (238 ≤ a ∧ a ≤ 239) && conts s (i + 1) 2) then 3 else if (decide (a = 240) && (decide (144 ≤ b ∧ b ≤ 191) && conts s (i + 2) 2)) || (decide (241 ≤ a ∧ a ≤ 243) && conts s (i + 1) 3) || (decide (a = 244) && (decide (128 ≤ b ∧ b ≤ 143) && conts s (i + 2) 2)) then 4 else 0) := by
  have w := within_eval a 225 236
  have t := tk s i hi (k + 5) 1 2 (by omega) (by omega) (by omega) 1 3 rfl rfl
  have j4 := j4_eval s i hi (k + 2) a b (by omega) true
  simp only [Int.cast_ofNat_Int] at w
  simp only [crierref1_Point.j1, w, t, Option.bind_some, j2_eval s i hi k a b hk]
  cases x
  · by_cases ha : 225 ≤ a ∧ a ≤ 236
    · rw [if_neg (by simp), if_pos (by simp [ha])]; simp [ha]
    · rw [if_neg (by simp), if_neg (by simp [ha])]; simp [ha]
  · rw [if_pos rfl]; rw [show k + 5 = k + 2 + 3 by omega, j4]; simp
theorem j0_eval (k a b : Nat) (hk : 4 ≤ k) (x : Bool) : crierref1_Point.j0 (k + 7) s i a b x = some (if x then 2 else if (decide (a = 224) && (decide (160 ≤ b ∧ b ≤ 191) && conts s (i + 2) 1)) || (decide (225 ≤ a ∧ a ≤ 236) && conts s (i + 1) 2) || (decide (a = 237) && (decide (128 ≤ b ∧ b ≤ 159) && conts s (i + 2) 1)) || (decide (238 ≤ a ∧ a ≤ 239) && conts s (i + 1) 2) then 3 else if (decide (a = 240) && (decide (144 ≤ b ∧ b ≤ 191) && conts s (i + 2) 2)) || (decide (241 ≤ a ∧ a ≤ 243) && conts s (i + 1) 3) || (decide (a = 244) && (decide (128 ≤ b ∧ b ≤ 143) && conts s (i + 2) 2)) then 4 else 0) := by
  have w := within_eval b 160 191
  have t := tk s i hi (k + 6) 2 1 (by omega) (by omega) (by omega) 2 3 rfl rfl
  simp only [Int.cast_ofNat_Int] at w
  simp only [crierref1_Point.j0, w, t, Option.bind_some, j1_eval s i hi k a b hk]
  cases x
  · by_cases ha : a = 224
    · rw [if_neg (by simp), if_pos (by omega)]
      by_cases hb : 160 ≤ b ∧ b ≤ 191
      · rw [if_pos (by simp [hb])]; simp [ha, hb]
      · rw [if_neg (by simp [hb])]; simp [hb]
    · rw [if_neg (by simp), if_neg (by omega)]; simp [ha]
  · simp
theorem point_eval (k : Nat) (hk : 20 ≤ k) :
    crierref1_Point.f k s (i : Int) = some ((point (at0 s i) (at0 s (i+1)) (at0 s (i+2)) (at0 s (i+3)) : Nat) : Int) := by
  obtain ⟨k, rfl⟩ : ∃ m, k = m + 7 := ⟨k - 7, by omega⟩
  have e1 : wrap64 ((i : Int) + 1) = ((i + 1 : Nat) : Int) := by rw [show (i : Int) + 1 = ((i + 1 : Nat) : Int) by omega, wrap_nat _ (by omega)]
  have w := within_eval (at0 s i) 194 223
  have t := tk s i hi (k + 7) 1 1 (by omega) (by omega) (by omega) 1 2 rfl rfl
  simp only [Int.cast_ofNat_Int] at w
  unfold crierref1_Point.f
  rw [at_eval, e1, at_eval]
  simp only [Option.bind_some, w]
  rw [← e1, t]
  simp only [Option.bind_some, j0_eval s i hi k _ _ (by omega)]
  simp only [conts, Bool.and_true]
  rw [show i + 1 + 1 = i + 2 by omega, show i + 2 + 1 = i + 3 by omega]
  unfold point
  generalize at0 s i = a
  generalize cont (at0 s (i + 2)) = c
  generalize cont (at0 s (i + 3)) = d
  generalize at0 s (i + 1) = b
  have hbb : (cont b = true ∧ 128 ≤ b ∧ b ≤ 191) ∨ (cont b = false ∧ (b < 128 ∨ 191 < b)) := by
    cases hb : cont b
    · exact .inr ⟨rfl, cont_no hb⟩
    · exact .inl ⟨rfl, cont_bd hb⟩
  rcases hbb with ⟨hb, hb1, hb2⟩ | ⟨hb, hb1⟩ <;> rw [hb] <;> cases c <;> cases d <;>
    simp only [decide_eq_true_eq, Bool.and_eq_true, Bool.and_true, Bool.and_false, Bool.or_false, Bool.false_or, Bool.or_eq_true, Bool.false_eq_true, if_true, if_false, and_true, and_false, false_and, or_false, false_or] <;>
    (repeat' split) <;> first | rfl | (exfalso; omega)
end
theorem check_eval (s : ByteArray) (hs : s.size ≤ 65535) : ∀ (b i k : Nat), i ≤ s.size + 4 → b + 30 ≤ k → s.size < i + b → crierref1_Check.l0 k s (i : Int) = some (chkL s b i)
  | b, i, k, hi, hk, hb => by
    obtain ⟨k, rfl⟩ : ∃ m, k = m + 1 := ⟨k - 1, by omega⟩
    simp only [crierref1_Check.l0]
    by_cases hp : i < s.size
    · obtain ⟨b, rfl⟩ : ∃ m, b = m + 1 := ⟨b - 1, by omega⟩
      have h1 : 1 ≤ s.size := by omega
      rw [if_pos (by omega), if_pos (by omega), bt_at0]
      simp only [chkL, hp, if_true]
      by_cases h0 : at0 s i = 0
      · rw [if_pos (by omega), if_pos h0]
      · rw [if_neg (by omega), if_neg h0, point_eval s i (by omega) k (by omega)]
        simp only [Option.bind_some]
        generalize hpt : point (at0 s i) (at0 s (i+1)) (at0 s (i+2)) (at0 s (i+3)) = pt
        have hp4 : pt ≤ 4 := by rw [← hpt]; unfold point; (repeat' split) <;> omega
        by_cases hz : pt = 0
        · rw [if_pos (by omega), if_pos hz]
        · rw [if_neg (by omega), if_neg hz, show (i : Int) + (pt : Int) = ((i + pt : Nat) : Int) by omega, wrap_nat _ (by omega)]
          exact check_eval s hs b (i + pt) k (by omega) (by omega) (by omega)
    · rw [if_neg (by omega)]
      cases b with
      | zero => rfl
      | succ b => simp only [chkL, hp, if_false]
theorem ref_check (s : ByteArray) : ∃ k, crierref1_Check.f k s = some (chk s) := by
  refine ⟨s.size + 40, ?_⟩
  unfold crierref1_Check.f chk
  by_cases h : 65535 < s.size
  · rw [if_pos (by omega), if_pos h]
  · rw [if_neg (by omega), if_neg h]
    exact check_eval s (by omega) (s.size + 1) 0 (s.size + 40) (by omega) (by omega) (by omega)
end Go.Proofs.Ytjccmlmkcjmicaa.RefChk

/- Plain facts on UTF-8: the model decoder against the document own table of code points, byte by byte. No condition. -/
import Derived.Test.YtjccmlmkcjmicaaDoorProg
import Derived.WalkKit
import Derived.Lib.Strings
import Derived.Lib.Slices
namespace Go.Proofs.YtjccmlmkcjmicaaDoor.Utf
open Go
/-- the byte at a place; 0 behind the end -/
def at0 (s : ByteArray) (i : Nat) : Nat := if h : i < s.size then (s[i]'h).toNat else 0
theorem at0_lt (s : ByteArray) (i : Nat) : at0 s i < 256 := by
  unfold at0; split
  · exact UInt8.toNat_lt _
  · omega
theorem get!_at0 (s : ByteArray) (i : Nat) : (s.get! i).toNat = at0 s i := by
  obtain ⟨a⟩ := s
  unfold at0
  show (a[i]!).toNat = if h : i < a.size then (a[i]'h).toNat else 0
  by_cases h : i < a.size
  · rw [dif_pos h, getElem!_pos a i h]
  · rw [dif_neg h, getElem!_neg a i h]; rfl
def cont (x : Nat) : Bool := decide (0x80 ≤ x ∧ x ≤ 0xBF)
/-- how many bytes the code point that begins with these bytes takes; 0: none -/
def point (a b c d : Nat) : Nat :=
  if a ≤ 0x7F then 1
  else if (0xC2 ≤ a ∧ a ≤ 0xDF) ∧ cont b then 2
  else if (a = 0xE0 ∧ (0xA0 ≤ b ∧ b ≤ 0xBF) ∧ cont c) ∨ ((0xE1 ≤ a ∧ a ≤ 0xEC) ∧ cont b ∧ cont c) ∨ (a = 0xED ∧ (0x80 ≤ b ∧ b ≤ 0x9F) ∧ cont c) ∨ ((0xEE ≤ a ∧ a ≤ 0xEF) ∧ cont b ∧ cont c) then 3
  else if (a = 0xF0 ∧ (0x90 ≤ b ∧ b ≤ 0xBF) ∧ cont c ∧ cont d) ∨ ((0xF1 ≤ a ∧ a ≤ 0xF3) ∧ cont b ∧ cont c ∧ cont d) ∨ (a = 0xF4 ∧ (0x80 ≤ b ∧ b ≤ 0x8F) ∧ cont c ∧ cont d) then 4
  else 0
def dec (a b c d : Nat) : Nat × Nat :=
  if a < 0x80 then (a, 1)
  else if a / 32 == 6 && b / 64 == 2 then
    let x := (a % 32) * 64 + b % 64
    if x ≥ 0x80 then (x, 2) else (0xFFFD, 1)
  else if a / 16 == 14 && b / 64 == 2 && c / 64 == 2 then
    let x := (a % 16) * 4096 + (b % 64) * 64 + c % 64
    if x ≥ 0x800 && Go.Utf8.valid x then (x, 3) else (0xFFFD, 1)
  else if a / 8 == 30 && b / 64 == 2 && c / 64 == 2 && d / 64 == 2 then
    let x := (a % 8) * 262144 + (b % 64) * 4096 + (c % 64) * 64 + d % 64
    if x ≥ 0x10000 && Go.Utf8.valid x then (x, 4) else (0xFFFD, 1)
  else (0xFFFD, 1)
theorem cont_iff (s : ByteArray) (i : Nat) : (decide (i < s.size) && (s.get! i).toNat / 64 == 2) = (at0 s i / 64 == 2) := by
  rw [get!_at0]
  by_cases h : i < s.size
  · simp [h]
  · simp [h, at0]
theorem cont_iff' (s : ByteArray) (i : Nat) : (decide (i < s.size) && at0 s i / 64 == 2) = (at0 s i / 64 == 2) := by
  rw [← get!_at0]; exact cont_iff s i ▸ (by rw [get!_at0])
theorem decode_dec (s : ByteArray) (i : Nat) : Go.Utf8.decode s i = dec (at0 s i) (at0 s (i+1)) (at0 s (i+2)) (at0 s (i+3)) := by
  unfold Go.Utf8.decode dec
  simp only [get!_at0, cont_iff', Nat.add_zero, Go.Utf8.runeError]
theorem d32 (a : Nat) : (a / 32 == 6) = decide (0xC0 ≤ a ∧ a ≤ 0xDF) := by rw [Bool.eq_iff_iff]; simp; omega
theorem d16 (a : Nat) : (a / 16 == 14) = decide (0xE0 ≤ a ∧ a ≤ 0xEF) := by rw [Bool.eq_iff_iff]; simp; omega
theorem d8 (a : Nat) : (a / 8 == 30) = decide (0xF0 ≤ a ∧ a ≤ 0xF7) := by rw [Bool.eq_iff_iff]; simp; omega
theorem d64 (a : Nat) : (a / 64 == 2) = cont a := by unfold cont; rw [Bool.eq_iff_iff]; simp; omega
theorem vld (x : Nat) : Go.Utf8.valid (x : Int) = decide (x < 0xD800 ∨ (0xE000 ≤ x ∧ x ≤ 0x10FFFF)) := by
  unfold Go.Utf8.valid; rw [Bool.eq_iff_iff]; simp; omega
/-- the form of what decode tells -/
structure Good (a b c d : Nat) (w : Nat) (r : Nat × Nat) : Prop where
  bad : w = 0 → r = (0xFFFD, 1) ∧ ¬ (a = 0xEF ∧ b = 0xBF ∧ c = 0xBD)
  width : w ≠ 0 → r.2 = w
  zero : w ≠ 0 → (r.1 = 0 ↔ a = 0)
  err : w ≠ 0 → r.1 = 0xFFFD → (a = 0xEF ∧ b = 0xBF ∧ c = 0xBD)
theorem good0 {a b c d : Nat} (h : ¬ (a = 0xEF ∧ b = 0xBF ∧ c = 0xBD)) : Good a b c d 0 (0xFFFD, 1) := ⟨fun _ => ⟨rfl, h⟩, fun h => absurd rfl h, fun h => absurd rfl h, fun h => absurd rfl h⟩
theorem goodw {a b c d w x : Nat} (hw : w ≠ 0) (hz : x = 0 ↔ a = 0) (he : x = 0xFFFD → (a = 0xEF ∧ b = 0xBF ∧ c = 0xBD)) : Good a b c d w (x, w) := ⟨fun h => absurd h hw, fun _ => rfl, fun _ => hz, fun _ => he⟩
theorem cont_bd {b : Nat} (h : cont b = true) : 128 ≤ b ∧ b ≤ 191 := by simpa [cont] using h
theorem cont_no {b : Nat} (h : cont b = false) : b < 128 ∨ 191 < b := by simp [cont] at h; omega
theorem dec_good (a b c d : Nat) (ha : a < 256) : Good a b c d (point a b c d) (dec a b c d) := by
  unfold dec
  simp only [d32, d16, d8, d64, vld]
  by_cases h1 : a < 0x80
  · rw [if_pos h1]; unfold point; rw [if_pos (by omega)]
    exact goodw (by omega) Iff.rfl (by omega)
  rw [if_neg h1]
  by_cases hE : 0xE0 ≤ a
  case neg =>
    have e2 : point a b c d = if (0xC2 ≤ a ∧ a ≤ 0xDF) ∧ cont b then 2 else 0 := by
      unfold point; rw [if_neg (by omega)]
      by_cases h : (0xC2 ≤ a ∧ a ≤ 0xDF) ∧ cont b = true
      · rw [if_pos h, if_pos h]
      · rw [if_neg h, if_neg h, if_neg (by omega), if_neg (by omega)]
    rw [e2]
    cases hb : cont b
    · simp only [Bool.and_false, Bool.false_and, Bool.false_eq_true, if_false, and_false]
      have := cont_no hb
      exact good0 (by omega)
    · have := cont_bd hb
      by_cases hC : 0xC0 ≤ a
      · by_cases hC2 : 0xC2 ≤ a
        · rw [if_pos (by simp; omega), if_pos (by simp; omega), if_pos (by omega)]
          exact goodw (by omega) (by omega) (by omega)
        · rw [if_neg (by omega), if_pos (by simp; omega), if_neg (by omega)]
          exact good0 (by omega)
      · rw [if_neg (by omega), if_neg (by simp; omega), if_neg (by simp; omega), if_neg (by simp; omega)]
        exact good0 (by omega)
  rw [if_neg (by simp; omega)]
  by_cases hF : 0xF0 ≤ a
  case neg =>
    rw [if_neg (c := (decide (0xF0 ≤ a ∧ a ≤ 0xF7) && cont b && cont c && cont d) = true) (by simp; omega)]
    have e3 : point a b c d = if (a = 0xE0 ∧ (0xA0 ≤ b ∧ b ≤ 0xBF) ∧ cont c) ∨ ((0xE1 ≤ a ∧ a ≤ 0xEC) ∧ cont b ∧ cont c) ∨ (a = 0xED ∧ (0x80 ≤ b ∧ b ≤ 0x9F) ∧ cont c) ∨ ((0xEE ≤ a ∧ a ≤ 0xEF) ∧ cont b ∧ cont c) then 3 else 0 := by
      unfold point; rw [if_neg (by omega), if_neg (by omega)]
      split
      · rfl
      · rw [if_neg (by omega)]
    rw [e3]
    cases hc : cont c
    · have := cont_no hc
      simp only [Bool.and_false, Bool.false_eq_true, if_false, and_false, or_false]
      exact good0 (by omega)
    · cases hb : cont b
      · have := cont_no hb
        simp only [Bool.and_false, Bool.false_and, Bool.false_eq_true, if_false, and_false, or_false, and_true, false_or]
        rw [if_neg (by omega)]
        exact good0 (by omega)
      · have := cont_bd hb; have := cont_bd hc
        simp only [and_true]
        by_cases hx : (a = 0xE0 ∧ b < 0xA0) ∨ (a = 0xED ∧ 0xA0 ≤ b)
        · rw [if_neg (by omega), if_pos (by simp; omega), if_neg (by simp; omega)]
          exact good0 (by omega)
        · rw [if_pos (by omega), if_pos (by simp; omega), if_pos (by simp; omega)]
          exact goodw (by omega) (by omega) (by omega)
  rw [if_neg (by simp; omega)]
  have e4 : point a b c d = if (a = 0xF0 ∧ (0x90 ≤ b ∧ b ≤ 0xBF) ∧ cont c ∧ cont d) ∨ ((0xF1 ≤ a ∧ a ≤ 0xF3) ∧ cont b ∧ cont c ∧ cont d) ∨ (a = 0xF4 ∧ (0x80 ≤ b ∧ b ≤ 0x8F) ∧ cont c ∧ cont d) then 4 else 0 := by
    unfold point; rw [if_neg (by omega), if_neg (by omega), if_neg (by omega)]
  rw [e4]
  cases hc : cont c
  · simp only [Bool.and_false, Bool.false_and, Bool.false_eq_true, if_false, and_false, false_and, or_false]
    exact good0 (by omega)
  cases hd : cont d
  · simp only [Bool.and_false, Bool.false_eq_true, if_false, and_false, or_false]
    exact good0 (by omega)
  have := cont_bd hc; have := cont_bd hd
  cases hb : cont b
  · have := cont_no hb
    simp only [Bool.and_false, Bool.false_and, Bool.false_eq_true, if_false, and_false, and_true, false_or]
    rw [if_neg (by omega)]
    exact good0 (by omega)
  have := cont_bd hb
  simp only [and_true]
  by_cases h7 : a ≤ 0xF7
  · by_cases hx : (a = 0xF0 ∧ b < 0x90) ∨ (a = 0xF4 ∧ 0x90 ≤ b) ∨ 0xF4 < a
    · rw [if_neg (by omega), if_pos (by simp; omega), if_neg (by simp; omega)]
      exact good0 (by omega)
    · rw [if_pos (by omega), if_pos (by simp; omega), if_pos (by simp; omega)]
      exact goodw (by omega) (by omega) (by omega)
  · rw [if_neg (by omega), if_neg (by simp; omega)]
    exact good0 (by omega)

/-- the document reading of a text, from byte i on: the first place that is wrong and why; 0, 0: none -/
def chkL (s : ByteArray) : Nat → Nat → Int × Int
  | 0, _ => (0, 0)
  | b + 1, i =>
    if i < s.size then
      if at0 s i = 0 then ((i : Int), 14)
      else if point (at0 s i) (at0 s (i+1)) (at0 s (i+2)) (at0 s (i+3)) = 0 then ((i : Int), 13)
      else chkL s b (i + point (at0 s i) (at0 s (i+1)) (at0 s (i+2)) (at0 s (i+3)))
    else (0, 0)
def chk (s : ByteArray) : Int × Int := if 65535 < s.size then (65535, 11) else chkL s (s.size + 1) 0
theorem at0_list (s : ByteArray) (j : Nat) : at0 s j = (s.data.toList[j]?.getD 0).toNat := by
  obtain ⟨⟨l⟩⟩ := s
  unfold at0
  by_cases h : j < l.length
  · rw [dif_pos (by exact h), List.getElem?_eq_getElem h]; rfl
  · rw [dif_neg (by exact h), List.getElem?_eq_none (by show l.length ≤ j; omega)]; rfl
/-- the prefix that RuneError has -/
theorem err_prefix (s : ByteArray) (i : Nat) :
    Lib.hasPrefix (s.extract i s.size).data.toList [239, 191, 189] = decide (at0 s i = 0xEF ∧ at0 s (i+1) = 0xBF ∧ at0 s (i+2) = 0xBD) := by
  have e : (s.extract i s.size).data.toList = s.data.toList.drop i := by
    rw [Lib.extract_data, List.take_of_length_le (by rw [List.length_drop, Array.length_toList]; exact Nat.le_refl _)]
  rw [e]
  have h0 : at0 s i = ((s.data.toList.drop i)[0]?.getD 0).toNat := by rw [at0_list, List.getElem?_drop]; rfl
  have h1 : at0 s (i+1) = ((s.data.toList.drop i)[1]?.getD 0).toNat := by rw [at0_list, List.getElem?_drop]
  have h2 : at0 s (i+2) = ((s.data.toList.drop i)[2]?.getD 0).toNat := by rw [at0_list, List.getElem?_drop]
  rw [h0, h1, h2]
  generalize s.data.toList.drop i = l
  have tn : ∀ (a : UInt8) (n : Nat), n < 256 → ((UInt8.ofNat n == a) = decide (a.toNat = n)) := fun a n hn => by
    rw [Bool.eq_iff_iff, beq_iff_eq, decide_eq_true_eq]
    constructor
    · rintro rfl; simp; omega
    · intro h; rw [← h]; simp
  unfold Lib.hasPrefix
  match l with
  | [] => simp [List.isPrefixOf]
  | [a] => simp [List.isPrefixOf]
  | [a, b] => simp [List.isPrefixOf]
  | a :: b :: c :: l =>
    have t1 := tn a 239 (by omega); have t2 := tn b 191 (by omega); have t3 := tn c 189 (by omega)
    show ((239 : UInt8) == a && ((191 : UInt8) == b && ((189 : UInt8) == c && true))) = _
    have e1 : ((239 : UInt8) == a) = decide (a.toNat = 239) := t1
    have e2 : ((191 : UInt8) == b) = decide (b.toNat = 191) := t2
    have e3 : ((189 : UInt8) == c) = decide (c.toNat = 189) := t3
    rw [e1, e2, e3]
    simp
theorem point_pos {a b c d : Nat} (h : point a b c d ≠ 0) : 1 ≤ point a b c d := by omega
end Go.Proofs.YtjccmlmkcjmicaaDoor.Utf

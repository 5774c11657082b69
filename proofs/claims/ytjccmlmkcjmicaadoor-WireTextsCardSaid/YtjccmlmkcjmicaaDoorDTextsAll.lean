/- crierlaw1.WireTexts: whatever the strings and the cut, true. No statement of the program. -/
import Derived.Test.YtjccmlmkcjmicaaDoorDTexts
import Derived.Test.YtjccmlmkcjmicaaDoorDTextsA
import Derived.Test.YtjccmlmkcjmicaaDoorDTextsB
namespace Go.Proofs.YtjccmlmkcjmicaaDoor.Texts
open Go Go.RowKit Go.Proofs.YtjccmlmkcjmicaaDoor.Utf Go.Proofs.YtjccmlmkcjmicaaDoor.Known Go.Proofs.YtjccmlmkcjmicaaDoor.TextLaw
set_option linter.unusedVariables false

theorem at0_get (s : ByteArray) (i : Nat) (h : i < s.size) : at0 s i = (s[i]'h).toNat := by unfold at0; rw [dif_pos h]
theorem extract_all (s : ByteArray) : s.extract 0 s.size = s := by simp
theorem pair_ok {s : ByteArray} (hs : s.size ≤ 65535) (h : (chk s).2 = 0) : chk s = (0, 0) := chk_ok hs (walk_of_ok hs h)

theorem texts_true (w : World) (hg : EtAt w) (a b more : ByteArray) (cut : Int) :
    Calls Tryd.prog 3 #[.string a, .string b, .string more, .int .i64 cut] w fun e w' => e = .returned (.bool true) ∧ Below w.heap.size w w' := by
  by_cases h0 : (a.size : Int) > 30000
  · exact big_a w hg a b more cut h0
  by_cases h1 : (b.size : Int) > 30000
  · exact big_b w hg a b more cut h0 h1
  by_cases h2 : (more.size : Int) > 5000
  · exact big_more w hg a b more cut h0 h1 h2
  have hsz := size_append a b
  by_cases ha : (chk a).2 = 0
  · have ha' := pair_ok (by omega) ha
    by_cases hab : (chk (a ++ b)).2 = 0
    · have hab' := pair_ok (by omega) hab
      have hb' := pair_ok (by omega) ((join_ok (by omega) ha).2 hab)
      by_cases hc : cut < 0
      · exact ok_neg w hg a b more cut h0 h1 h2 ha' hb' hab' hc
      by_cases hc2 : (a.size : Int) ≤ cut
      · exact ok_far w hg a b more cut h0 h1 h2 ha' hb' hab' (by omega) hc2
      have hl : cut.toNat < a.size := by omega
      have hget := at0_get a cut.toNat hl
      by_cases hv : ((a[cut.toNat]'hl).toNat : Int) < 128
      · obtain ⟨hx, hy⟩ := cut_ok (by omega) ha cut.toNat hl (by omega)
        have z1 := size_extract a 0 cut.toNat (Nat.zero_le _) (by omega)
        have z2 := size_extract a cut.toNat a.size (by omega) (Nat.le_refl _)
        exact ok_low w hg a b more cut h0 h1 h2 ha' hb' hab' (by omega) (by omega) hl (pair_ok (by omega) hx) (pair_ok (by omega) hy) hv
      · by_cases hv2 : 192 ≤ ((a[cut.toNat]'hl).toNat : Int)
        · obtain ⟨hx, hy⟩ := cut_ok (by omega) ha cut.toNat hl (by omega)
          have z1 := size_extract a 0 cut.toNat (Nat.zero_le _) (by omega)
          have z2 := size_extract a cut.toNat a.size (by omega) (Nat.le_refl _)
          exact ok_high w hg a b more cut h0 h1 h2 ha' hb' hab' (by omega) (by omega) hl (pair_ok (by omega) hx) (pair_ok (by omega) hy) hv hv2
        · exact ok_mid w hg a b more cut h0 h1 h2 ha' hb' hab' (by omega) (by omega) hl hv hv2
    · have hfb : ¬ (chk b).2 = 0 := fun h => hab ((join_ok (by omega) ha).1 h)
      obtain ⟨p, hp, hw, hx, hy⟩ := refused (by omega) hab
      have hfb' : ((chk b).2 == 0) = false := by simpa using hfb
      have z1 := size_extract (a ++ b) 0 p (Nat.zero_le _) (by omega)
      have hx' := pair_ok (by omega) hx
      have hget := at0_get (a ++ b) p hp
      rcases hw with ⟨e, hz⟩ | ⟨e, hz⟩
      · have hv : ((((a ++ b)[p]'hp).toNat : Int) == 0) = true := by rw [beq_iff_eq]; omega
        rcases Nat.lt_trichotomy (p + 4) (a ++ b).size with hn | hn | hn
        · exact ok_14_near w hg a b more cut h0 h1 h2 ha' _ _ rfl hfb' (a ++ b) rfl p hp (by omega) e hv hx' hn ((hy more (by omega) (by omega) (by omega)).trans e)
        · exact ok_14_at w hg a b more cut h0 h1 h2 ha' _ _ rfl hfb' (a ++ b) rfl p hp (by omega) e hv hx' hn (by have := hy more (by omega) (by omega) (by omega); rw [hn, extract_all] at this; exact this.trans e)
        · exact ok_14_far w hg a b more cut h0 h1 h2 ha' _ _ rfl hfb' (a ++ b) rfl p hp (by omega) e hv hx' hn
      · have hv : ((((a ++ b)[p]'hp).toNat : Int) == 0) = false := by rw [beq_eq_false_iff_ne]; omega
        rcases Nat.lt_trichotomy (p + 4) (a ++ b).size with hn | hn | hn
        · exact ok_13_near w hg a b more cut h0 h1 h2 ha' _ _ rfl hfb' (a ++ b) rfl p hp (by omega) e hv hx' hn ((hy more (by omega) (by omega) (by omega)).trans e)
        · exact ok_13_at w hg a b more cut h0 h1 h2 ha' _ _ rfl hfb' (a ++ b) rfl p hp (by omega) e hv hx' hn (by have := hy more (by omega) (by omega) (by omega); rw [hn, extract_all] at this; exact this.trans e)
        · exact ok_13_far w hg a b more cut h0 h1 h2 ha' _ _ rfl hfb' (a ++ b) rfl p hp (by omega) e hv hx' hn
  · have hea : ((chk a).2 == 0) = false := by simpa using ha
    by_cases hab : (chk (a ++ b)).2 = 0
    · exact bad_ok w hg a b more cut h0 h1 h2 _ _ rfl hea (pair_ok (by omega) hab)
    · obtain ⟨p, hp, hw, hx, hy⟩ := refused (by omega) hab
      have z1 := size_extract (a ++ b) 0 p (Nat.zero_le _) (by omega)
      have hx' := pair_ok (by omega) hx
      have hget := at0_get (a ++ b) p hp
      rcases hw with ⟨e, hz⟩ | ⟨e, hz⟩
      · have hv : ((((a ++ b)[p]'hp).toNat : Int) == 0) = true := by rw [beq_iff_eq]; omega
        rcases Nat.lt_trichotomy (p + 4) (a ++ b).size with hn | hn | hn
        · exact bad_14_near w hg a b more cut h0 h1 h2 _ _ rfl hea (a ++ b) rfl p hp (by omega) e hv hx' hn ((hy more (by omega) (by omega) (by omega)).trans e)
        · exact bad_14_at w hg a b more cut h0 h1 h2 _ _ rfl hea (a ++ b) rfl p hp (by omega) e hv hx' hn (by have := hy more (by omega) (by omega) (by omega); rw [hn, extract_all] at this; exact this.trans e)
        · exact bad_14_far w hg a b more cut h0 h1 h2 _ _ rfl hea (a ++ b) rfl p hp (by omega) e hv hx' hn
      · have hv : ((((a ++ b)[p]'hp).toNat : Int) == 0) = false := by rw [beq_eq_false_iff_ne]; omega
        rcases Nat.lt_trichotomy (p + 4) (a ++ b).size with hn | hn | hn
        · exact bad_13_near w hg a b more cut h0 h1 h2 _ _ rfl hea (a ++ b) rfl p hp (by omega) e hv hx' hn ((hy more (by omega) (by omega) (by omega)).trans e)
        · exact bad_13_at w hg a b more cut h0 h1 h2 _ _ rfl hea (a ++ b) rfl p hp (by omega) e hv hx' hn (by have := hy more (by omega) (by omega) (by omega); rw [hn, extract_all] at this; exact this.trans e)
        · exact bad_13_far w hg a b more cut h0 h1 h2 _ _ rfl hea (a ++ b) rfl p hp (by omega) e hv hx' hn
end Go.Proofs.YtjccmlmkcjmicaaDoor.Texts

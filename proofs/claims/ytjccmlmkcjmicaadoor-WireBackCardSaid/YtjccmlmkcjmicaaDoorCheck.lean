/- The walk of wire.Check: called with any string it returns what Utf.chk says of its bytes, and memory that was there stays. No condition beyond a string's greatest length. -/
import Derived.Test.YtjccmlmkcjmicaaDoorUtf
import Derived.Laws.Strings3
import Derived.Deep.LoopGhost
import Derived.Lib.Hide
namespace Go.Proofs.YtjccmlmkcjmicaaDoor.Chk
open Go Go.RowKit Go.Proofs.YtjccmlmkcjmicaaDoor.Utf

theorem stringslite_hp (s p : ByteArray) (w : World) :
    Calls Tryd.prog 42 #[.string s, .string p] w fun e w' => e = .returned (.bool (Lib.hasPrefix s.data.toList p.data.toList)) ∧ w = w' := by
  rw [← Lib.hasPrefix_of_take, ← Lib.size_eq, ← Lib.size_eq]
  go_enter Tryd.func42, Tryd.ntmps42
  go_wp2
  · rename_i h
    go_ret
    refine ⟨?_, rfl⟩
    show Ending.returned (Value.bool ((s.extract 0 p.size).toList == p.toList)) = _
    rw [Lib.extract_toList, Lib.toList_data]
    simp [h]
  · rename_i h
    go_ret
    refine ⟨?_, rfl⟩
    show Ending.returned (Value.bool false) = _
    simp [h]

theorem strings_hp (s p : ByteArray) (w : World) :
    Calls Tryd.prog 30 #[.string s, .string p] w fun e w' => e = .returned (.bool (Lib.hasPrefix s.data.toList p.data.toList)) ∧ w = w' := by
  go_enter Tryd.func30, Tryd.ntmps30
  go_wp2_with (go_at_call 42; refine (stringslite_hp _ _ _).mono ?_; rintro e w' ⟨rfl, rfl⟩)
  go_ret
  exact ⟨rfl, rfl⟩

set_option maxRecDepth 100000 in
theorem check_long (s : ByteArray) (w : World) (h : 65535 < s.size) :
    Calls Tryd.prog 7 #[.string s] w fun e w' => e = .returned (.tuple #[.int .i64 (chk s).1, .int .i64 (chk s).2]) ∧ Below w.heap.size w w' := by
  have e : chk s = (65535, 11) := by unfold chk; rw [if_pos h]
  rw [e]
  go_enter Tryd.func7, Tryd.ntmps7
  go_wp2
  go_ret2
  exact ⟨rfl, Below.refl _ _⟩

set_option maxRecDepth 100000 in
set_option maxHeartbeats 1000000 in
theorem check_short (s : ByteArray) (w : World) (h : ¬ 65535 < s.size) :
    Calls Tryd.prog 7 #[.string s] w fun e w' => e = .returned (.tuple #[.int .i64 (chk s).1, .int .i64 (chk s).2]) ∧ Below w.heap.size w w' := by
  have e : chk s = chkL s (s.size + 1) 0 := by unfold chk; rw [if_neg h]
  rw [e]
  obtain ⟨r1, r2, hr⟩ : ∃ r1 r2, chkL s (s.size + 1) 0 = (r1, r2) := ⟨_, _, rfl⟩
  rw [hr]
  have HR := Lib.hid hr
  clear hr e
  go_enter Tryd.func7, Tryd.ntmps7
  go_wp2
  go_loopg [] (s.size + 1) (fun b wr => ∃ pos : Nat, wr = w.iter s pos ∧ Hid (chkL s b pos = (r1, r2)) ∧ s.size < pos + b)
  case atStart => exact ⟨0, rfl, HR, by omega⟩
  case round =>
    obtain ⟨pos, rfl, HC, hb⟩ := hrel
    clear HR
    by_cases hp : pos < s.size
    · have hnx : ∀ ty, (Instr.next (.pointer (some ⟨w.heap.size, 0, none⟩)) true ty).run Tryd.prog (w.iter s pos) = _ := fun ty => run_next_any w s pos ty hp
      cases gk with
      | zero => omega
      | succ gk =>
      have hc := HC.out
      clear HC
      simp only [chkL, hp, if_true] at hc
      have hgood := dec_good (at0 s pos) (at0 s (pos+1)) (at0 s (pos+2)) (at0 s (pos+3)) (at0_lt _ _)
      rw [← decode_dec] at hgood
      have hle := decode_le s pos
      have hep := err_prefix s pos
      generalize Utf8.decode s pos = dr at hgood hnx hle
      obtain ⟨dc, dw⟩ := dr
      have hp1 : at0 s pos = 0 → point (at0 s pos) (at0 s (pos+1)) (at0 s (pos+2)) (at0 s (pos+3)) ≠ 0 := fun h => by unfold point; rw [if_pos (by omega)]; omega
      generalize hpt : point (at0 s pos) (at0 s (pos+1)) (at0 s (pos+2)) (at0 s (pos+3)) = pt at hgood hc hp1
      clear hpt
      by_cases h0 : at0 s pos = 0
      · rw [if_pos h0] at hc
        simp only [Prod.mk.injEq] at hc
        obtain ⟨rfl, rfl⟩ := hc
        have hz : ((dc : Int) == 0) = true := by
          have := (hgood.zero (hp1 h0)).2 h0
          simp only [beq_iff_eq]; exact_mod_cast this
        clear hgood hep hle hp1
        go_wp2
        go_ret2
        exact ⟨rfl, (Below.refl _ _).alloc (Nat.le_refl _) _⟩
      · rw [if_neg h0] at hc
        by_cases hp0 : pt = 0
        · rw [if_pos hp0] at hc
          simp only [Prod.mk.injEq] at hc
          obtain ⟨rfl, rfl⟩ := hc
          have hdc := (hgood.bad hp0).1
          simp only [Prod.mk.injEq] at hdc
          obtain ⟨rfl, rfl⟩ := hdc
          have hno := (hgood.bad hp0).2
          have hpf : Lib.hasPrefix (List.take (s.size - pos) (List.drop pos s.data.toList)) [239, 191, 189] = false := by rw [← Lib.extract_data, hep]; simp only [decide_eq_false_iff_not]; exact hno
          clear hgood hep hle hp1 hno hp0 h0
          go_wp2_with (go_at_call 30; refine (strings_hp _ _ _).mono ?_; rintro e w' ⟨rfl, rfl⟩)
          go_ret2
          exact ⟨rfl, (Below.refl _ _).alloc (Nat.le_refl _) _⟩
        · rw [if_neg hp0] at hc
          have hw1 : dw = pt := hgood.width hp0
          subst hw1
          have hz : ((dc : Int) == 0) = false := by
            have := hgood.zero hp0
            simp only [beq_eq_false_iff_ne]; intro e; exact h0 (this.1 (by simp only; omega))
          have HC := Lib.hid hc
          have HW := Lib.hid (show 1 ≤ dw by omega)
          clear hc
          by_cases he : dc = 65533
          · subst he
            have hpf : Lib.hasPrefix (List.take (s.size - pos) (List.drop pos s.data.toList)) [239, 191, 189] = true := by rw [← Lib.extract_data, hep]; simp only [decide_eq_true_eq]; exact hgood.err hp0 rfl
            clear hgood hep hle hp1 hz
            go_wp2_with (go_at_call 30; refine (strings_hp _ _ _).mono ?_; rintro e w' ⟨rfl, rfl⟩)
            go_roundg gk
            case rel => have := HW.out; exact ⟨pos + dw, rfl, HC, by omega⟩
            case measure => omega
          · have he2 : ((dc : Int) == 65533) = false := by simp only [beq_eq_false_iff_ne]; omega
            clear hgood hep hle hp1
            go_wp2
            go_roundg gk
            case rel => have := HW.out; exact ⟨pos + dw, rfl, HC, by omega⟩
            case measure => omega
    · have hnx : ∀ ty, (Instr.next (.pointer (some ⟨w.heap.size, 0, none⟩)) true ty).run Tryd.prog (w.iter s pos) = _ := fun ty => run_next_end w s pos ty hp
      have hc : chkL s gk pos = (0, 0) := by
        cases gk with
        | zero => rfl
        | succ gk => simp only [chkL, hp, if_false]
      rw [HC.out] at hc
      clear HC
      simp only [Prod.mk.injEq] at hc
      obtain ⟨rfl, rfl⟩ := hc
      go_wp2
      go_ret2
      exact ⟨rfl, (Below.refl _ _).alloc (Nat.le_refl _) _⟩

theorem check_any (s : ByteArray) (w : World) :
    Calls Tryd.prog 7 #[.string s] w fun e w' => e = .returned (.tuple #[.int .i64 (chk s).1, .int .i64 (chk s).2]) ∧ Below w.heap.size w w' := by
  by_cases h : 65535 < s.size
  · exact check_long s w h
  · exact check_short s w h
end Go.Proofs.YtjccmlmkcjmicaaDoor.Chk

/- crierlaw1.WireShort walked: whatever the bytes, true; memory that was there stays. No statement of the program. -/
import Derived.Test.YtjccmlmkcjmicaaDoorDKnown
import Derived.Test.YtjccmlmkcjmicaaDoorDLen
namespace Go.Proofs.YtjccmlmkcjmicaaDoor.Short
open Go Go.RowKit Go.Proofs.YtjccmlmkcjmicaaDoorW.PrintWords Go.Proofs.YtjccmlmkcjmicaaDoorW.PrintLast Go.Proofs.YtjccmlmkcjmicaaDoorW.PrintMore Go.Proofs.YtjccmlmkcjmicaaDoor.Rdr Go.Proofs.YtjccmlmkcjmicaaDoor.Known Go.Proofs.YtjccmlmkcjmicaaDoor.Len Go.Proofs.YtjccmlmkcjmicaaDoor.PWireBack
set_option linter.unusedVariables false
set_option linter.unusedSimpArgs false

set_option maxRecDepth 100000 in
set_option maxHeartbeats 2000000 in
theorem short_big (w : World) (hg : EtAt w) (l : List Int) (A : Option Addr) (c : Nat) (hr : (Kd.int .u8).C w A l.length l) (hc : l.length ≤ c) (hbig : (l.length : Int) > 140000) :
    Calls Tryd.prog 4 #[.slice A l.length c] w fun e w' => e = .returned (.bool true) ∧ Below w.heap.size w w' := by
  have HR := Aside0.mk hr
  clear hr
  have b0 : decide ((l.length : Int) > 140000) = true := decide_eq_true hbig
  go_enter Tryd.func4, Tryd.ntmps4
  go_wp2_with (go_at_call 6; refine (known_true _ hg).mono ?_; rintro e w1 ⟨rfl, hB⟩; have HB := Aside0.mk hB; clear hB)
  go_ret
  exact ⟨rfl, HB.out⟩

set_option maxRecDepth 100000 in
set_option maxHeartbeats 2000000 in
theorem short_10 (w : World) (hg : EtAt w) (l : List Int) (A : Option Addr) (c : Nat) (hr : (Kd.int .u8).C w A l.length l) (hc : l.length ≤ c) (hw : ∀ x ∈ l, 0 ≤ x ∧ x ≤ 255) (h : lenS l = (0, 0, 10)) (hlt : l.length < 4) (m : Int) (hm0 : 0 ≤ m) (hm : lenS (l ++ [0]) = (m, (l.length : Int) + 1, 0)) :
    Calls Tryd.prog 4 #[.slice A l.length c] w fun e w' => e = .returned (.bool true) ∧ Below w.heap.size w w' := by
  have HR := Aside0.mk hr
  clear hr
  have b0 : decide ((l.length : Int) > 140000) = false := decide_eq_false (by omega)
  have HE := length_eval l hw
  rw [h] at HE
  have hwz : ∀ x ∈ l ++ [0], 0 ≤ x ∧ x ≤ 255 := by
    intro x hx
    rcases List.mem_append.1 hx with hx | hx
    · exact hw x hx
    · simp at hx; subst hx; omega
  have HE2 := length_eval (l ++ [0]) hwz
  rw [hm] at HE2
  obtain ⟨ys, hys⟩ : ∃ ys, ys = l ++ [0] := ⟨_, rfl⟩
  have hbf : crierlaw1_behind.f l [0] = some (l ++ [0]) := by
    unfold crierlaw1_behind.f
    rw [if_pos (by simp; omega)]
    simp only [Option.bind_some, List.nil_append]
    rw [if_pos (by simp; omega)]
  rw [← hys] at HE2 hbf
  clear hys
  have b1 : decide ((l.length : Int) < 4) = true := decide_eq_true (by omega)
  have b2 : decide (0 ≤ m) = true := decide_eq_true hm0
  have e1 : wrap64 ((l.length : Int) + 1) = (l.length : Int) + 1 := by unfold wrap64; omega
  have HEa := Aside0.mk HE
  have HEb := Aside0.mk HE2
  have HBF := Aside0.mk hbf
  clear HE HE2 hbf h hm hwz
  go_enter Tryd.func4, Tryd.ntmps4
  go_wp2_with (first
    | (go_at_call 6; refine (known_true _ hg).mono ?_; rintro e w1 ⟨rfl, hB⟩; have HR1 := Aside0.mk (Kd.C_below HR.out hB); have HB1 := Aside0.mk hB; clear hB)
    | (go_at_call 9; refine (wire_Length.calls 6 _ _ l 0 0 10 _ HR1.out hc HEa.out).mono ?_; rintro e w2 ⟨rfl, hD⟩; have HB2 := Aside0.mk (Drawn0.below hD HB1.out); have HR2 := Aside0.mk (Kd.C_below HR1.out (Drawn0.below hD (Below.refl _ _))); have HL := Aside0.mk (C_lit w2 [0] (by decide)); clear hD HR1 HB1)
    | (go_at_call 8; refine (num_id _ _).mono ?_; rintro e w3 ⟨rfl, rfl⟩)
    | (go_at_call 10; refine (crierlaw1_behind.calls _ _ l _ _ [0] ys _ (Kd.C_alloc HR2.out _) hc HL.out (Nat.le_refl _) HBF.out).mono ?_; rintro e w4 ⟨v, rfl, hR, hB⟩; obtain ⟨A4, c4, rfl, hc4, hC4⟩ := Kd.R_reads hR; have HC4 := Aside0.mk hC4; have HB4 := Aside0.mk ((HB2.out.alloc HB2.out.size _).trans (hB.mono (HB2.out.alloc HB2.out.size _).size)); clear hR hC4 hB HR2 HL)
    | (go_at_call 9; refine (wire_Length.calls 6 _ _ ys m ((l.length : Int) + 1) 0 _ HC4.out hc4 HEb.out).mono ?_; rintro e w5 ⟨rfl, hD⟩; have HB5 := Aside0.mk (Drawn0.below hD HB4.out); clear hD))
  go_ret
  exact ⟨rfl, HB5.out⟩

set_option maxRecDepth 100000 in
set_option maxHeartbeats 2000000 in
theorem short_12 (w : World) (hg : EtAt w) (l : List Int) (A : Option Addr) (c : Nat) (hr : (Kd.int .u8).C w A l.length l) (hc : l.length ≤ c) (hw : ∀ x ∈ l, 0 ≤ x ∧ x ≤ 255) (hbig : ¬ (l.length : Int) > 140000) (h : lenS l = (0, 0, 12)) (hge : 4 ≤ l.length) :
    Calls Tryd.prog 4 #[.slice A l.length c] w fun e w' => e = .returned (.bool true) ∧ Below w.heap.size w w' := by
  have HR := Aside0.mk hr
  clear hr
  have b0 : decide ((l.length : Int) > 140000) = false := decide_eq_false hbig
  have HE := length_eval l hw
  rw [h] at HE
  have b1 : decide ((l.length : Int) ≥ 4) = true := decide_eq_true (by omega)
  have HEa := Aside0.mk HE
  clear HE h
  go_enter Tryd.func4, Tryd.ntmps4
  go_wp2_with (first
    | (go_at_call 6; refine (known_true _ hg).mono ?_; rintro e w1 ⟨rfl, hB⟩; have HR1 := Aside0.mk (Kd.C_below HR.out hB); have HB1 := Aside0.mk hB; clear hB)
    | (go_at_call 9; refine (wire_Length.calls 6 _ _ l 0 0 12 _ HR1.out hc HEa.out).mono ?_; rintro e w2 ⟨rfl, hD⟩; have HB2 := Aside0.mk (Drawn0.below hD HB1.out); clear hD HR1 HB1)
    | (go_at_call 8; refine (num_id _ _).mono ?_; rintro e w3 ⟨rfl, rfl⟩))
  go_ret
  exact ⟨rfl, HB2.out⟩

set_option maxRecDepth 100000 in
set_option maxHeartbeats 2000000 in
theorem short_0 (w : World) (hg : EtAt w) (l : List Int) (A : Option Addr) (c : Nat) (hr : (Kd.int .u8).C w A l.length l) (hc : l.length ≤ c) (hw : ∀ x ∈ l, 0 ≤ x ∧ x ≤ 255) (hbig : ¬ (l.length : Int) > 140000) (m : Int) (k : Nat) (h : lenS l = (m, (k : Int), 0)) (hk1 : 1 ≤ k) (hk4 : k ≤ 4) (hkl : k ≤ l.length) (hm0 : 0 ≤ m) (hm1 : m < 128 ^ k) :
    Calls Tryd.prog 4 #[.slice A l.length c] w fun e w' => e = .returned (.bool true) ∧ Below w.heap.size w w' := by
  have HR := Aside0.mk hr
  clear hr
  have b0 : decide ((l.length : Int) > 140000) = false := decide_eq_false hbig
  have HE := length_eval l hw
  rw [h] at HE
  have hp4 := pow_le4 k hk4
  have hmc : m ≤ 268435455 := by omega
  have hel : (encL 5 (lenCl m)).length ≤ k := by rw [lenCl_id m hm0 hmc]; exact encL_len 5 k m hm0 hm1 hk1
  obtain ⟨all, hall⟩ : ∃ all, all = [] ++ encL 5 (lenCl m) := ⟨_, rfl⟩
  have hlen : all.length ≤ k := by rw [hall]; exact hel
  have b1 : decide ((k : Int) ≥ 1) = true := decide_eq_true (by omega)
  have b2 : decide ((k : Int) ≤ 4) = true := decide_eq_true (by omega)
  have b3 : decide ((k : Int) ≤ (l.length : Int)) = true := decide_eq_true (by omega)
  have b4 : decide (m ≥ 0) = true := decide_eq_true hm0
  have b5 : decide (m ≤ 268435455) = true := decide_eq_true hmc
  have b6 : decide ((all.length : Int) ≤ (k : Int)) = true := decide_eq_true (by omega)
  have HEa := Aside0.mk HE
  have HALL := Aside0.mk hall
  clear HE h hall hel
  go_enter Tryd.func4, Tryd.ntmps4
  go_wp2_with (first
    | (go_at_call 6; refine (known_true _ hg).mono ?_; rintro e w1 ⟨rfl, hB⟩; have HR1 := Aside0.mk (Kd.C_below HR.out hB); have HB1 := Aside0.mk hB; clear hB)
    | (go_at_call 9; refine (wire_Length.calls 6 _ _ l m (k : Int) 0 _ HR1.out hc HEa.out).mono ?_; rintro e w2 ⟨rfl, hD⟩; have HB2 := Aside0.mk (Drawn0.below hD HB1.out); clear hD HR1 HB1)
    | (go_at_call 8; refine (num_id _ _).mono ?_; rintro e w3 ⟨rfl, rfl⟩)
    | (go_at_call 11; refine (putLength_any [] m none 0 _ (Kd.C_nil _ _) (by decide) all HALL.out).mono ?_; rintro e w4 ⟨v, rfl, hR, hB⟩; obtain ⟨A4, c4, rfl, hc4, hC4⟩ := Kd.R_reads hR; have HB4 := Aside0.mk (HB2.out.trans (hB.mono HB2.out.size)); clear hR hC4 hB))
  go_ret
  exact ⟨rfl, HB4.out⟩

theorem short_true (w : World) (hg : EtAt w) (l : List Int) (A : Option Addr) (c : Nat) (hr : (Kd.int .u8).C w A l.length l) (hc : l.length ≤ c) (hw : ∀ x ∈ l, 0 ≤ x ∧ x ≤ 255) :
    Calls Tryd.prog 4 #[.slice A l.length c] w fun e w' => e = .returned (.bool true) ∧ Below w.heap.size w w' := by
  by_cases hbig : (l.length : Int) > 140000
  · exact short_big w hg l A c hr hc hbig
  · rcases lenS_ways l hw with ⟨h, hlt, m, hm0, hm⟩ | ⟨h, hge⟩ | ⟨m, k, h, hk1, hk4, hkl, hm0, hm1⟩
    · exact short_10 w hg l A c hr hc hw h hlt m hm0 hm
    · exact short_12 w hg l A c hr hc hw hbig h hge
    · exact short_0 w hg l A c hr hc hw hbig m k h hk1 hk4 hkl hm0 hm1
end Go.Proofs.YtjccmlmkcjmicaaDoor.Short

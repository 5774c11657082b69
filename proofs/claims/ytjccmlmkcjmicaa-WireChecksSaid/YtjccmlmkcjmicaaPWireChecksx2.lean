-- PRINTED BY print.sh 35421559b90ae4d0a3588c463048766b98c2df88dd9212a6774a882060cdf62d: not written by this session
import Derived.Test.YtjccmlmkcjmicaaPWireChecksx0
import Derived.Test.YtjccmlmkcjmicaaPWireChecksx1
namespace Go.Proofs.Ytjccmlmkcjmicaa.PWireChecks
open Go.RowKit Go.Proofs.YtjccmlmkcjmicaaW.PrintWords Go.Proofs.YtjccmlmkcjmicaaW.PrintLast Go.Proofs.YtjccmlmkcjmicaaW.PrintMore
attribute [local go_sem] max2_int min2_int max_two min_two max_three min_three max_four min_four   -- for this text's walks alone
set_option linter.unusedVariables false
set_option linter.unusedSimpArgs false

/-! ### crierref1_Point: function 61 -/
mutual
def crierref1_Point.j0 : Nat → ByteArray → Int → Int → Int → Bool → Option (Int)
  | 0, _, _, _, _, _ => none
  | k + 1, x0, x1, x5, x6, x17 => if x17 = true then (some 2) else (if x5 = 224 then ((crierref1_within.f x6 160 191).bind fun t108 => (if t108 = true then ((crierref1_tail.f k x0 (wrap64 (x1 + 2)) (wrap64 (x1 + 3))).bind fun t109 => (crierref1_Point.j1 k x0 x1 x5 x6 t109)) else (crierref1_Point.j1 k x0 x1 x5 x6 false))) else (crierref1_Point.j1 k x0 x1 x5 x6 false))
def crierref1_Point.j1 : Nat → ByteArray → Int → Int → Int → Bool → Option (Int)
  | 0, _, _, _, _, _ => none
  | k + 1, x0, x1, x5, x6, x28 => if x28 = true then (crierref1_Point.j4 k x0 x1 x5 x6 x28) else ((crierref1_within.f x5 225 236).bind fun t110 => (if t110 = true then ((crierref1_tail.f k x0 (wrap64 (x1 + 1)) (wrap64 (x1 + 3))).bind fun t111 => (crierref1_Point.j2 k x0 x1 x5 x6 t111)) else (crierref1_Point.j2 k x0 x1 x5 x6 false)))
def crierref1_Point.j4 : Nat → ByteArray → Int → Int → Int → Bool → Option (Int)
  | 0, _, _, _, _, _ => none
  | k + 1, x0, x1, x5, x6, x28 => if x28 = true then (some 3) else (if x5 = 240 then ((crierref1_within.f x6 144 191).bind fun t116 => (if t116 = true then ((crierref1_tail.f k x0 (wrap64 (x1 + 2)) (wrap64 (x1 + 4))).bind fun t117 => (crierref1_Point.j5 k x0 x1 x5 x6 t117)) else (crierref1_Point.j5 k x0 x1 x5 x6 false))) else (crierref1_Point.j5 k x0 x1 x5 x6 false))
def crierref1_Point.j5 : Nat → ByteArray → Int → Int → Int → Bool → Option (Int)
  | 0, _, _, _, _, _ => none
  | k + 1, x0, x1, x5, x6, x77 => if x77 = true then (some 4) else ((crierref1_within.f x5 241 243).bind fun t118 => (if t118 = true then ((crierref1_tail.f k x0 (wrap64 (x1 + 1)) (wrap64 (x1 + 4))).bind fun t119 => (crierref1_Point.j6 k x0 x1 x5 x6 t119)) else (crierref1_Point.j6 k x0 x1 x5 x6 false)))
def crierref1_Point.j6 : Nat → ByteArray → Int → Int → Int → Bool → Option (Int)
  | 0, _, _, _, _, _ => none
  | k + 1, x0, x1, x5, x6, x77 => if x77 = true then (some 4) else (if x5 = 244 then ((crierref1_within.f x6 128 143).bind fun t120 => (if t120 = true then ((crierref1_tail.f k x0 (wrap64 (x1 + 2)) (wrap64 (x1 + 4))).bind fun t121 => (if t121 = true then (some 4) else (some 0))) else (some 0))) else (some 0))
def crierref1_Point.j2 : Nat → ByteArray → Int → Int → Int → Bool → Option (Int)
  | 0, _, _, _, _, _ => none
  | k + 1, x0, x1, x5, x6, x28 => if x28 = true then (crierref1_Point.j4 k x0 x1 x5 x6 x28) else (if x5 = 237 then ((crierref1_within.f x6 128 159).bind fun t112 => (if t112 = true then ((crierref1_tail.f k x0 (wrap64 (x1 + 2)) (wrap64 (x1 + 3))).bind fun t113 => (crierref1_Point.j3 k x0 x1 x5 x6 t113)) else (crierref1_Point.j3 k x0 x1 x5 x6 false))) else (crierref1_Point.j3 k x0 x1 x5 x6 false))
def crierref1_Point.j3 : Nat → ByteArray → Int → Int → Int → Bool → Option (Int)
  | 0, _, _, _, _, _ => none
  | k + 1, x0, x1, x5, x6, x28 => if x28 = true then (crierref1_Point.j4 k x0 x1 x5 x6 x28) else ((crierref1_within.f x5 238 239).bind fun t114 => (if t114 = true then ((crierref1_tail.f k x0 (wrap64 (x1 + 1)) (wrap64 (x1 + 3))).bind fun t115 => (crierref1_Point.j4 k x0 x1 x5 x6 t115)) else (crierref1_Point.j4 k x0 x1 x5 x6 false)))
end
def crierref1_Point.f (k : Nat) (a0 : ByteArray) (a1 : Int) : Option (Int) := (crierref1_at.f a0 a1).bind fun t104 => ((crierref1_at.f a0 (wrap64 (a1 + 1))).bind fun t105 => (if t104 ≤ 127 then (some 1) else ((crierref1_within.f t104 194 223).bind fun t106 => (if t106 = true then ((crierref1_tail.f k a0 (wrap64 (a1 + 1)) (wrap64 (a1 + 2))).bind fun t107 => (crierref1_Point.j0 k a0 a1 t104 t105 t107)) else (crierref1_Point.j0 k a0 a1 t104 t105 false)))))
theorem crierref1_Point.mono_l : ∀ k, (∀ y0 y1 y2 y3 y4, LeO (crierref1_Point.j0 k y0 y1 y2 y3 y4) (crierref1_Point.j0 (k + 1) y0 y1 y2 y3 y4)) ∧ (∀ y0 y1 y2 y3 y4, LeO (crierref1_Point.j1 k y0 y1 y2 y3 y4) (crierref1_Point.j1 (k + 1) y0 y1 y2 y3 y4)) ∧ (∀ y0 y1 y2 y3 y4, LeO (crierref1_Point.j4 k y0 y1 y2 y3 y4) (crierref1_Point.j4 (k + 1) y0 y1 y2 y3 y4)) ∧ (∀ y0 y1 y2 y3 y4, LeO (crierref1_Point.j5 k y0 y1 y2 y3 y4) (crierref1_Point.j5 (k + 1) y0 y1 y2 y3 y4)) ∧ (∀ y0 y1 y2 y3 y4, LeO (crierref1_Point.j6 k y0 y1 y2 y3 y4) (crierref1_Point.j6 (k + 1) y0 y1 y2 y3 y4)) ∧ (∀ y0 y1 y2 y3 y4, LeO (crierref1_Point.j2 k y0 y1 y2 y3 y4) (crierref1_Point.j2 (k + 1) y0 y1 y2 y3 y4)) ∧ (∀ y0 y1 y2 y3 y4, LeO (crierref1_Point.j3 k y0 y1 y2 y3 y4) (crierref1_Point.j3 (k + 1) y0 y1 y2 y3 y4))
  | 0 => ⟨fun _ _ _ _ _ r h => by simp [crierref1_Point.j0] at h, fun _ _ _ _ _ r h => by simp [crierref1_Point.j1] at h, fun _ _ _ _ _ r h => by simp [crierref1_Point.j4] at h, fun _ _ _ _ _ r h => by simp [crierref1_Point.j5] at h, fun _ _ _ _ _ r h => by simp [crierref1_Point.j6] at h, fun _ _ _ _ _ r h => by simp [crierref1_Point.j2] at h, fun _ _ _ _ _ r h => by simp [crierref1_Point.j3] at h⟩
  | k + 1 => by
    obtain ⟨ih0, ih1, ih2, ih3, ih4, ih5, ih6⟩ := crierref1_Point.mono_l k
    refine ⟨?_, ?_, ?_, ?_, ?_, ?_, ?_⟩
    · intro y0 y1 y2 y3 y4
      unfold crierref1_Point.j0
      repeat' first
      | (with_reducible exact ih0 _ _ _ _ _)
      | (with_reducible exact ih1 _ _ _ _ _)
      | (with_reducible exact ih2 _ _ _ _ _)
      | (with_reducible exact ih3 _ _ _ _ _)
      | (with_reducible exact ih4 _ _ _ _ _)
      | (with_reducible exact ih5 _ _ _ _ _)
      | (with_reducible exact ih6 _ _ _ _ _)
      | (with_reducible exact crierref1_tail.mono _ _ _ _)
      | (with_reducible exact LeO.refl _)
      | (with_reducible exact LeO.none _)
      | (with_reducible refine LeO.ite ?_ ?_)
      | (with_reducible refine LeO.bind ?_ (fun _ => ?_))
      | exact ih0 _ _ _ _ _
      | exact ih1 _ _ _ _ _
      | exact ih2 _ _ _ _ _
      | exact ih3 _ _ _ _ _
      | exact ih4 _ _ _ _ _
      | exact ih5 _ _ _ _ _
      | exact ih6 _ _ _ _ _
      | exact crierref1_tail.mono _ _ _ _
      | exact LeO.none _
      | refine LeO.ite ?_ ?_
      | refine LeO.bind ?_ (fun _ => ?_)
    · intro y0 y1 y2 y3 y4
      unfold crierref1_Point.j1
      repeat' first
      | (with_reducible exact ih0 _ _ _ _ _)
      | (with_reducible exact ih1 _ _ _ _ _)
      | (with_reducible exact ih2 _ _ _ _ _)
      | (with_reducible exact ih3 _ _ _ _ _)
      | (with_reducible exact ih4 _ _ _ _ _)
      | (with_reducible exact ih5 _ _ _ _ _)
      | (with_reducible exact ih6 _ _ _ _ _)
      | (with_reducible exact crierref1_tail.mono _ _ _ _)
      | (with_reducible exact LeO.refl _)
      | (with_reducible exact LeO.none _)
      | (with_reducible refine LeO.ite ?_ ?_)
      | (with_reducible refine LeO.bind ?_ (fun _ => ?_))
      | exact ih0 _ _ _ _ _
      | exact ih1 _ _ _ _ _
      | exact ih2 _ _ _ _ _
      | exact ih3 _ _ _ _ _
      | exact ih4 _ _ _ _ _
      | exact ih5 _ _ _ _ _
      | exact ih6 _ _ _ _ _
      | exact crierref1_tail.mono _ _ _ _
      | exact LeO.none _
      | refine LeO.ite ?_ ?_
      | refine LeO.bind ?_ (fun _ => ?_)
    · intro y0 y1 y2 y3 y4
      unfold crierref1_Point.j4
      repeat' first
      | (with_reducible exact ih0 _ _ _ _ _)
      | (with_reducible exact ih1 _ _ _ _ _)
      | (with_reducible exact ih2 _ _ _ _ _)
      | (with_reducible exact ih3 _ _ _ _ _)
      | (with_reducible exact ih4 _ _ _ _ _)
      | (with_reducible exact ih5 _ _ _ _ _)
      | (with_reducible exact ih6 _ _ _ _ _)
      | (with_reducible exact crierref1_tail.mono _ _ _ _)
      | (with_reducible exact LeO.refl _)
      | (with_reducible exact LeO.none _)
      | (with_reducible refine LeO.ite ?_ ?_)
      | (with_reducible refine LeO.bind ?_ (fun _ => ?_))
      | exact ih0 _ _ _ _ _
      | exact ih1 _ _ _ _ _
      | exact ih2 _ _ _ _ _
      | exact ih3 _ _ _ _ _
      | exact ih4 _ _ _ _ _
      | exact ih5 _ _ _ _ _
      | exact ih6 _ _ _ _ _
      | exact crierref1_tail.mono _ _ _ _
      | exact LeO.none _
      | refine LeO.ite ?_ ?_
      | refine LeO.bind ?_ (fun _ => ?_)
    · intro y0 y1 y2 y3 y4
      unfold crierref1_Point.j5
      repeat' first
      | (with_reducible exact ih0 _ _ _ _ _)
      | (with_reducible exact ih1 _ _ _ _ _)
      | (with_reducible exact ih2 _ _ _ _ _)
      | (with_reducible exact ih3 _ _ _ _ _)
      | (with_reducible exact ih4 _ _ _ _ _)
      | (with_reducible exact ih5 _ _ _ _ _)
      | (with_reducible exact ih6 _ _ _ _ _)
      | (with_reducible exact crierref1_tail.mono _ _ _ _)
      | (with_reducible exact LeO.refl _)
      | (with_reducible exact LeO.none _)
      | (with_reducible refine LeO.ite ?_ ?_)
      | (with_reducible refine LeO.bind ?_ (fun _ => ?_))
      | exact ih0 _ _ _ _ _
      | exact ih1 _ _ _ _ _
      | exact ih2 _ _ _ _ _
      | exact ih3 _ _ _ _ _
      | exact ih4 _ _ _ _ _
      | exact ih5 _ _ _ _ _
      | exact ih6 _ _ _ _ _
      | exact crierref1_tail.mono _ _ _ _
      | exact LeO.none _
      | refine LeO.ite ?_ ?_
      | refine LeO.bind ?_ (fun _ => ?_)
    · intro y0 y1 y2 y3 y4
      unfold crierref1_Point.j6
      repeat' first
      | (with_reducible exact ih0 _ _ _ _ _)
      | (with_reducible exact ih1 _ _ _ _ _)
      | (with_reducible exact ih2 _ _ _ _ _)
      | (with_reducible exact ih3 _ _ _ _ _)
      | (with_reducible exact ih4 _ _ _ _ _)
      | (with_reducible exact ih5 _ _ _ _ _)
      | (with_reducible exact ih6 _ _ _ _ _)
      | (with_reducible exact crierref1_tail.mono _ _ _ _)
      | (with_reducible exact LeO.refl _)
      | (with_reducible exact LeO.none _)
      | (with_reducible refine LeO.ite ?_ ?_)
      | (with_reducible refine LeO.bind ?_ (fun _ => ?_))
      | exact ih0 _ _ _ _ _
      | exact ih1 _ _ _ _ _
      | exact ih2 _ _ _ _ _
      | exact ih3 _ _ _ _ _
      | exact ih4 _ _ _ _ _
      | exact ih5 _ _ _ _ _
      | exact ih6 _ _ _ _ _
      | exact crierref1_tail.mono _ _ _ _
      | exact LeO.none _
      | refine LeO.ite ?_ ?_
      | refine LeO.bind ?_ (fun _ => ?_)
    · intro y0 y1 y2 y3 y4
      unfold crierref1_Point.j2
      repeat' first
      | (with_reducible exact ih0 _ _ _ _ _)
      | (with_reducible exact ih1 _ _ _ _ _)
      | (with_reducible exact ih2 _ _ _ _ _)
      | (with_reducible exact ih3 _ _ _ _ _)
      | (with_reducible exact ih4 _ _ _ _ _)
      | (with_reducible exact ih5 _ _ _ _ _)
      | (with_reducible exact ih6 _ _ _ _ _)
      | (with_reducible exact crierref1_tail.mono _ _ _ _)
      | (with_reducible exact LeO.refl _)
      | (with_reducible exact LeO.none _)
      | (with_reducible refine LeO.ite ?_ ?_)
      | (with_reducible refine LeO.bind ?_ (fun _ => ?_))
      | exact ih0 _ _ _ _ _
      | exact ih1 _ _ _ _ _
      | exact ih2 _ _ _ _ _
      | exact ih3 _ _ _ _ _
      | exact ih4 _ _ _ _ _
      | exact ih5 _ _ _ _ _
      | exact ih6 _ _ _ _ _
      | exact crierref1_tail.mono _ _ _ _
      | exact LeO.none _
      | refine LeO.ite ?_ ?_
      | refine LeO.bind ?_ (fun _ => ?_)
    · intro y0 y1 y2 y3 y4
      unfold crierref1_Point.j3
      repeat' first
      | (with_reducible exact ih0 _ _ _ _ _)
      | (with_reducible exact ih1 _ _ _ _ _)
      | (with_reducible exact ih2 _ _ _ _ _)
      | (with_reducible exact ih3 _ _ _ _ _)
      | (with_reducible exact ih4 _ _ _ _ _)
      | (with_reducible exact ih5 _ _ _ _ _)
      | (with_reducible exact ih6 _ _ _ _ _)
      | (with_reducible exact crierref1_tail.mono _ _ _ _)
      | (with_reducible exact LeO.refl _)
      | (with_reducible exact LeO.none _)
      | (with_reducible refine LeO.ite ?_ ?_)
      | (with_reducible refine LeO.bind ?_ (fun _ => ?_))
      | exact ih0 _ _ _ _ _
      | exact ih1 _ _ _ _ _
      | exact ih2 _ _ _ _ _
      | exact ih3 _ _ _ _ _
      | exact ih4 _ _ _ _ _
      | exact ih5 _ _ _ _ _
      | exact ih6 _ _ _ _ _
      | exact crierref1_tail.mono _ _ _ _
      | exact LeO.none _
      | refine LeO.ite ?_ ?_
      | refine LeO.bind ?_ (fun _ => ?_)
theorem crierref1_Point.mono : ∀ a0 a1 k, LeO (crierref1_Point.f k a0 a1) (crierref1_Point.f (k + 1) a0 a1) := by
  intro a0 a1 k
  obtain ⟨ih0, ih1, ih2, ih3, ih4, ih5, ih6⟩ := crierref1_Point.mono_l k
  unfold crierref1_Point.f
  repeat' first
      | (with_reducible exact ih0 _ _ _ _ _)
      | (with_reducible exact ih1 _ _ _ _ _)
      | (with_reducible exact ih2 _ _ _ _ _)
      | (with_reducible exact ih3 _ _ _ _ _)
      | (with_reducible exact ih4 _ _ _ _ _)
      | (with_reducible exact ih5 _ _ _ _ _)
      | (with_reducible exact ih6 _ _ _ _ _)
      | (with_reducible exact crierref1_tail.mono _ _ _ _)
      | (with_reducible exact LeO.refl _)
      | (with_reducible exact LeO.none _)
      | (with_reducible refine LeO.ite ?_ ?_)
      | (with_reducible refine LeO.bind ?_ (fun _ => ?_))
      | exact ih0 _ _ _ _ _
      | exact ih1 _ _ _ _ _
      | exact ih2 _ _ _ _ _
      | exact ih3 _ _ _ _ _
      | exact ih4 _ _ _ _ _
      | exact ih5 _ _ _ _ _
      | exact ih6 _ _ _ _ _
      | exact crierref1_tail.mono _ _ _ _
      | exact LeO.none _
      | refine LeO.ite ?_ ?_
      | refine LeO.bind ?_ (fun _ => ?_)
set_option maxHeartbeats 8000000 in
set_option maxRecDepth 100000 in
theorem crierref1_Point.calls (k : Nat) (a0 : ByteArray) (a1 : Int) (r : Int) (w : World) (h : crierref1_Point.f k a0 a1 = some r) :
    Calls Try.prog 61 #[.string a0, .int .i64 a1] w fun e w' => e = .returned (.int .i64 r) ∧ Drawn0 w w' := by
  have H : ((crierref1_at.f a0 a1).bind fun t104 => ((crierref1_at.f a0 (wrap64 (a1 + 1))).bind fun t105 => (if t104 ≤ 127 then (some 1) else ((crierref1_within.f t104 194 223).bind fun t106 => (if t106 = true then ((crierref1_tail.f k a0 (wrap64 (a1 + 1)) (wrap64 (a1 + 2))).bind fun t107 => (crierref1_Point.j0 k a0 a1 t104 t105 t107)) else (crierref1_Point.j0 k a0 a1 t104 t105 false)))))) = some r := h
  clear h
  replace H := Option.bind_eq_some_iff.mp H
  obtain ⟨t104, A30, H⟩ := H
  replace H : ((crierref1_at.f a0 (wrap64 (a1 + 1))).bind fun t105 => (if t104 ≤ 127 then (some 1) else ((crierref1_within.f t104 194 223).bind fun t106 => (if t106 = true then ((crierref1_tail.f k a0 (wrap64 (a1 + 1)) (wrap64 (a1 + 2))).bind fun t107 => (crierref1_Point.j0 k a0 a1 t104 t105 t107)) else (crierref1_Point.j0 k a0 a1 t104 t105 false))))) = some r := H
  have A3 := Aside0.mk A30
  clear A30
  replace H := Option.bind_eq_some_iff.mp H
  obtain ⟨t105, A40, H⟩ := H
  replace H : (if t104 ≤ 127 then (some 1) else ((crierref1_within.f t104 194 223).bind fun t106 => (if t106 = true then ((crierref1_tail.f k a0 (wrap64 (a1 + 1)) (wrap64 (a1 + 2))).bind fun t107 => (crierref1_Point.j0 k a0 a1 t104 t105 t107)) else (crierref1_Point.j0 k a0 a1 t104 t105 false)))) = some r := H
  have A4 := Aside0.mk A40
  clear A40
  by_cases c5 : t104 ≤ 127
  · rw [if_pos c5] at H
    have c5b0 : decide (t104 ≤ 127) = true := decide_eq_true c5
    clear c5
    obtain rfl := Option.some.inj H
    go_enter Try.func61, Try.ntmps61
    go_wp2_with (first | ((with_reducible refine gate_callee (f := 81) rfl ?_); refine goesL_ (some 9) rfl rfl Try.func81 (by kernel_rfl) rfl #[.string a0, .int .i64 a1] rfl (by (try simp only [List.map_toArray, List.map_cons, List.map_nil]); first | done | rfl | (simp only [List.length_drop, List.length_take]; rfl)) ?_; (with_reducible refine (crierref1_at.calls a0 a1 t104 _ A3.out).mono ?_); rintro e w' ⟨rfl, ⟨nd, rfl⟩⟩; refine ⟨_, rfl, ?_⟩) | ((with_reducible refine gate_callee (f := 81) rfl ?_); refine goesL_ (some 13) rfl rfl Try.func81 (by kernel_rfl) rfl #[.string a0, .int .i64 (wrap64 (a1 + 1))] rfl (by (try simp only [List.map_toArray, List.map_cons, List.map_nil]); first | done | rfl | (simp only [List.length_drop, List.length_take]; rfl)) ?_; (with_reducible refine (crierref1_at.calls a0 (wrap64 (a1 + 1)) t105 _ A4.out).mono ?_); rintro e w' ⟨rfl, ⟨nd, rfl⟩⟩; refine ⟨_, rfl, ?_⟩))
    go_ret
    exact ⟨by first | rfl | (simp; done) | (simp [*]; done), by repeat (first | exact Drawn0.refl _ | apply Drawn0.step)⟩
  · rw [if_neg c5] at H
    have c5b0 : decide (t104 ≤ 127) = false := decide_eq_false c5
    clear c5
    have HC6 := Aside0.mk H
    clear H
    go_enter Try.func61, Try.ntmps61
    go_upto_region 4 with (first | ((with_reducible refine gate_callee (f := 81) rfl ?_); refine goesL_ (some 9) rfl rfl Try.func81 (by kernel_rfl) rfl #[.string a0, .int .i64 a1] rfl (by (try simp only [List.map_toArray, List.map_cons, List.map_nil]); first | done | rfl | (simp only [List.length_drop, List.length_take]; rfl)) ?_; (with_reducible refine (crierref1_at.calls a0 a1 t104 _ A3.out).mono ?_); rintro e w' ⟨rfl, ⟨nd, rfl⟩⟩; refine ⟨_, rfl, ?_⟩) | ((with_reducible refine gate_callee (f := 81) rfl ?_); refine goesL_ (some 13) rfl rfl Try.func81 (by kernel_rfl) rfl #[.string a0, .int .i64 (wrap64 (a1 + 1))] rfl (by (try simp only [List.map_toArray, List.map_cons, List.map_nil]); first | done | rfl | (simp only [List.length_drop, List.length_take]; rfl)) ?_; (with_reducible refine (crierref1_at.calls a0 (wrap64 (a1 + 1)) t105 _ A4.out).mono ?_); rintro e w' ⟨rfl, ⟨nd, rfl⟩⟩; refine ⟨_, rfl, ?_⟩))
    (try simp only [Act.put, List.setIfInBounds_toArray, List.set_cons_zero, List.set_cons_succ])
    go_cut [17] (fun v17 wc => ∃ (kq : Nat) (x17_5 : Bool), v17 = .bool x17_5 ∧ Aside0 (crierref1_Point.j0 kq a0 a1 t104 t105 x17_5 = some r) ∧ Aside0 (kq ≤ k) ∧ Drawn0 w wc)
    case first =>
      have H := HC6.out
      clear HC6
      replace H := Option.bind_eq_some_iff.mp H
      obtain ⟨t106, A70, H⟩ := H
      replace H : (if t106 = true then ((crierref1_tail.f k a0 (wrap64 (a1 + 1)) (wrap64 (a1 + 2))).bind fun t107 => (crierref1_Point.j0 k a0 a1 t104 t105 t107)) else (crierref1_Point.j0 k a0 a1 t104 t105 false)) = some r := H
      have A7 := Aside0.mk A70
      clear A70
      by_cases c8 : t106 = true
      · subst c8
        have H1 : ((crierref1_tail.f k a0 (wrap64 (a1 + 1)) (wrap64 (a1 + 2))).bind fun t107 => (crierref1_Point.j0 k a0 a1 t104 t105 t107)) = some r := by rw [if_pos rfl] at H; exact H
        clear H
        have H := H1
        clear H1
        replace H := Option.bind_eq_some_iff.mp H
        obtain ⟨t107, A90, H⟩ := H
        replace H : (crierref1_Point.j0 k a0 a1 t104 t105 t107) = some r := H
        have A9 := Aside0.mk A90
        clear A90
        have H' := Aside0.mk H
        clear H
        go_wp2_with (first | ((with_reducible refine gate_callee (f := 82) rfl ?_); refine goesL_ (some 19) rfl rfl Try.func82 (by kernel_rfl) rfl #[.int .u8 t104, .int .u8 194, .int .u8 223] rfl (by (try simp only [List.map_toArray, List.map_cons, List.map_nil]); first | done | rfl | (simp only [List.length_drop, List.length_take]; rfl)) ?_; (with_reducible refine (crierref1_within.calls t104 194 223 true _ A7.out).mono ?_); rintro e w' ⟨rfl, ⟨nd, rfl⟩⟩; refine ⟨_, rfl, ?_⟩) | (go_at_call 83; (with_reducible refine (crierref1_tail.calls k a0 (wrap64 (a1 + 1)) (wrap64 (a1 + 2)) t107 _ A9.out).mono ?_); rintro e w' ⟨rfl, ⟨nd, rfl⟩⟩))
        go_meet
        case rel => exact ⟨_, (t107), (by first | rfl | (simp; done) | (simp [*]; done)), H', ⟨by first | omega | exact Nat.le_refl _⟩, by repeat (first | exact Drawn0.refl _ | apply Drawn0.step)⟩
      · replace c8 := Bool.eq_false_iff.mpr c8
        subst c8
        have H1 : (crierref1_Point.j0 k a0 a1 t104 t105 false) = some r := by rw [if_neg (show ¬ (false = true) by decide)] at H; exact H
        clear H
        have H := H1
        clear H1
        have H' := Aside0.mk H
        clear H
        go_wp2_with (first | ((with_reducible refine gate_callee (f := 82) rfl ?_); refine goesL_ (some 19) rfl rfl Try.func82 (by kernel_rfl) rfl #[.int .u8 t104, .int .u8 194, .int .u8 223] rfl (by (try simp only [List.map_toArray, List.map_cons, List.map_nil]); first | done | rfl | (simp only [List.length_drop, List.length_take]; rfl)) ?_; (with_reducible refine (crierref1_within.calls t104 194 223 false _ A7.out).mono ?_); rintro e w' ⟨rfl, ⟨nd, rfl⟩⟩; refine ⟨_, rfl, ?_⟩))
        go_meet
        case rel => exact ⟨_, (false), (by first | rfl | (simp; done) | (simp [*]; done)), H', ⟨by first | omega | exact Nat.le_refl _⟩, by repeat (first | exact Drawn0.refl _ | apply Drawn0.step)⟩
    case rest =>
      clear HC6
      try clear p2
      try clear c5
      try clear c5b0
      try clear c6
      try clear p6
      try clear c8
      obtain ⟨kq, x17_5, rfl, HA, HJ5, ⟨mc5, rfl⟩⟩ := hcut
      cases kq with
      | zero => exact absurd HA.out (by simp [crierref1_Point.j0])
      | succ kj5 =>
        have H := HA.out
        clear HA
        simp only [crierref1_Point.j0] at H
        by_cases c10 : x17_5 = true
        · subst c10
          have H1 : (some 2) = some r := by rw [if_pos rfl] at H; exact H
          clear H
          have H := H1
          clear H1
          obtain rfl := Option.some.inj H
          go_wp2
          go_ret
          exact ⟨by first | rfl | (simp; done) | (simp [*]; done), by repeat (first | exact Drawn0.refl _ | apply Drawn0.step)⟩
        · replace c10 := Bool.eq_false_iff.mpr c10
          subst c10
          have H1 : (if t104 = 224 then ((crierref1_within.f t105 160 191).bind fun t108 => (if t108 = true then ((crierref1_tail.f kj5 a0 (wrap64 (a1 + 2)) (wrap64 (a1 + 3))).bind fun t109 => (crierref1_Point.j1 kj5 a0 a1 t104 t105 t109)) else (crierref1_Point.j1 kj5 a0 a1 t104 t105 false))) else (crierref1_Point.j1 kj5 a0 a1 t104 t105 false)) = some r := by rw [if_neg (show ¬ (false = true) by decide)] at H; exact H
          clear H
          have H := H1
          clear H1
          have HC11 := Aside0.mk H
          clear H
          go_upto_region 6 with (fail)
          go_cut [28] (fun v28 wc => ∃ (kq : Nat) (x28_10 : Bool), v28 = .bool x28_10 ∧ Aside0 (crierref1_Point.j1 kq a0 a1 t104 t105 x28_10 = some r) ∧ Aside0 (kq ≤ kj5) ∧ Drawn0 w wc)
          case first =>
            have H := HC11.out
            clear HC11
            by_cases c12 : t104 = 224
            · rw [if_pos c12] at H
              have c12b0 : (t104 == 224) = true := beq_iff_eq.mpr c12
              have c12b1 : (t104 != 224) = false := bne_eq_false_iff_eq.mpr c12
              clear c12
              (first | rw [c12b0] | (simp only [i64_w, i32_w]; rw [c12b0]) | skip)
              replace H := Option.bind_eq_some_iff.mp H
              obtain ⟨t108, A130, H⟩ := H
              replace H : (if t108 = true then ((crierref1_tail.f kj5 a0 (wrap64 (a1 + 2)) (wrap64 (a1 + 3))).bind fun t109 => (crierref1_Point.j1 kj5 a0 a1 t104 t105 t109)) else (crierref1_Point.j1 kj5 a0 a1 t104 t105 false)) = some r := H
              have A13 := Aside0.mk A130
              clear A130
              by_cases c14 : t108 = true
              · subst c14
                have H1 : ((crierref1_tail.f kj5 a0 (wrap64 (a1 + 2)) (wrap64 (a1 + 3))).bind fun t109 => (crierref1_Point.j1 kj5 a0 a1 t104 t105 t109)) = some r := by rw [if_pos rfl] at H; exact H
                clear H
                have H := H1
                clear H1
                replace H := Option.bind_eq_some_iff.mp H
                obtain ⟨t109, A150, H⟩ := H
                replace H : (crierref1_Point.j1 kj5 a0 a1 t104 t105 t109) = some r := H
                have A15 := Aside0.mk A150
                clear A150
                have H' := Aside0.mk H
                clear H
                go_wp2_with (first | (go_at_call 82; (with_reducible refine (crierref1_within.calls t105 160 191 true _ A13.out).mono ?_); rintro e w' ⟨rfl, ⟨nd, rfl⟩⟩) | (go_at_call 83; (with_reducible refine (crierref1_tail.calls kj5 a0 (wrap64 (a1 + 2)) (wrap64 (a1 + 3)) t109 _ A15.out).mono ?_); rintro e w' ⟨rfl, ⟨nd, rfl⟩⟩))
                go_meet
                case rel => exact ⟨_, (t109), (by first | rfl | (simp; done) | (simp [*]; done)), H', ⟨by have := HJ5.out; first | omega | exact Nat.le_refl _⟩, by repeat (first | exact Drawn0.refl _ | apply Drawn0.step)⟩
              · replace c14 := Bool.eq_false_iff.mpr c14
                subst c14
                have H1 : (crierref1_Point.j1 kj5 a0 a1 t104 t105 false) = some r := by rw [if_neg (show ¬ (false = true) by decide)] at H; exact H
                clear H
                have H := H1
                clear H1
                have H' := Aside0.mk H
                clear H
                go_wp2_with (first | (go_at_call 82; (with_reducible refine (crierref1_within.calls t105 160 191 false _ A13.out).mono ?_); rintro e w' ⟨rfl, ⟨nd, rfl⟩⟩))
                go_meet
                case rel => exact ⟨_, (false), (by first | rfl | (simp; done) | (simp [*]; done)), H', ⟨by have := HJ5.out; first | omega | exact Nat.le_refl _⟩, by repeat (first | exact Drawn0.refl _ | apply Drawn0.step)⟩
            · rw [if_neg c12] at H
              have c12b0 : (t104 == 224) = false := beq_eq_false_iff_ne.mpr c12
              have c12b1 : (t104 != 224) = true := bne_iff_ne.mpr c12
              (first | rw [c12b0] | (simp only [i64_w, i32_w]; rw [c12b0]) | skip)
              have H' := Aside0.mk H
              clear H
              go_wp2
              go_meet
              case rel => exact ⟨_, (false), (by first | rfl | (simp; done) | (simp [*]; done)), H', ⟨by have := HJ5.out; first | omega | exact Nat.le_refl _⟩, by repeat (first | exact Drawn0.refl _ | apply Drawn0.step)⟩
          case rest =>
            clear HC11
            try clear c1
            try clear p2
            try clear c5
            try clear c5b0
            try clear c6
            try clear p6
            try clear c8
            try clear c10
            try clear c12
            try clear c12b0
            try clear c12b1
            try clear c14
            try clear p2
            try clear p6
            obtain ⟨kq, x28_10, rfl, HA, HJ10, ⟨mc10, rfl⟩⟩ := hcut
            cases kq with
            | zero => exact absurd HA.out (by simp [crierref1_Point.j1])
            | succ kj10 =>
              have H := HA.out
              clear HA
              simp only [crierref1_Point.j1] at H
              have HC16 := Aside0.mk H
              clear H
              go_upto_if 28 with (fail)
              go_cut [28] (fun v28 wc => ∃ (kq : Nat) (x28_15 : Bool), v28 = .bool x28_15 ∧ Aside0 (crierref1_Point.j4 kq a0 a1 t104 t105 x28_15 = some r) ∧ Aside0 (kq ≤ kj10) ∧ Drawn0 w wc)
              case first =>
                have H := HC16.out
                clear HC16
                by_cases c17 : x28_10 = true
                · subst c17
                  have H1 : (crierref1_Point.j4 kj10 a0 a1 t104 t105 true) = some r := by rw [if_pos rfl] at H; exact H
                  clear H
                  have H := H1
                  clear H1
                  have H' := Aside0.mk H
                  clear H
                  go_wp2
                  go_meet
                  case rel => exact ⟨_, (true), (by first | rfl | (simp; done) | (simp [*]; done)), H', ⟨by have := HJ5.out; have := HJ10.out; first | omega | exact Nat.le_refl _⟩, by repeat (first | exact Drawn0.refl _ | apply Drawn0.step)⟩
                · replace c17 := Bool.eq_false_iff.mpr c17
                  subst c17
                  have H1 : ((crierref1_within.f t104 225 236).bind fun t110 => (if t110 = true then ((crierref1_tail.f kj10 a0 (wrap64 (a1 + 1)) (wrap64 (a1 + 3))).bind fun t111 => (crierref1_Point.j2 kj10 a0 a1 t104 t105 t111)) else (crierref1_Point.j2 kj10 a0 a1 t104 t105 false))) = some r := by rw [if_neg (show ¬ (false = true) by decide)] at H; exact H
                  clear H
                  have H := H1
                  clear H1
                  have HC18 := Aside0.mk H
                  clear H
                  go_upto_region 7 with (fail)
                  go_cut [28] (fun v28 wc => ∃ (kq : Nat) (x28_17 : Bool), v28 = .bool x28_17 ∧ Aside0 (crierref1_Point.j2 kq a0 a1 t104 t105 x28_17 = some r) ∧ Aside0 (kq ≤ kj10) ∧ Drawn0 w wc)
                  case first =>
                    have H := HC18.out
                    clear HC18
                    replace H := Option.bind_eq_some_iff.mp H
                    obtain ⟨t110, A190, H⟩ := H
                    replace H : (if t110 = true then ((crierref1_tail.f kj10 a0 (wrap64 (a1 + 1)) (wrap64 (a1 + 3))).bind fun t111 => (crierref1_Point.j2 kj10 a0 a1 t104 t105 t111)) else (crierref1_Point.j2 kj10 a0 a1 t104 t105 false)) = some r := H
                    have A19 := Aside0.mk A190
                    clear A190
                    by_cases c20 : t110 = true
                    · subst c20
                      have H1 : ((crierref1_tail.f kj10 a0 (wrap64 (a1 + 1)) (wrap64 (a1 + 3))).bind fun t111 => (crierref1_Point.j2 kj10 a0 a1 t104 t105 t111)) = some r := by rw [if_pos rfl] at H; exact H
                      clear H
                      have H := H1
                      clear H1
                      replace H := Option.bind_eq_some_iff.mp H
                      obtain ⟨t111, A210, H⟩ := H
                      replace H : (crierref1_Point.j2 kj10 a0 a1 t104 t105 t111) = some r := H
                      have A21 := Aside0.mk A210
                      clear A210
                      have H' := Aside0.mk H
                      clear H
                      go_wp2_with (first | ((with_reducible refine gate_callee (f := 82) rfl ?_); refine goesL_ (some 44) rfl rfl Try.func82 (by kernel_rfl) rfl #[.int .u8 t104, .int .u8 225, .int .u8 236] rfl (by (try simp only [List.map_toArray, List.map_cons, List.map_nil]); first | done | rfl | (simp only [List.length_drop, List.length_take]; rfl)) ?_; (with_reducible refine (crierref1_within.calls t104 225 236 true _ A19.out).mono ?_); rintro e w' ⟨rfl, ⟨nd, rfl⟩⟩; refine ⟨_, rfl, ?_⟩) | (go_at_call 83; (with_reducible refine (crierref1_tail.calls kj10 a0 (wrap64 (a1 + 1)) (wrap64 (a1 + 3)) t111 _ A21.out).mono ?_); rintro e w' ⟨rfl, ⟨nd, rfl⟩⟩))
                      go_meet
                      case rel => exact ⟨_, (t111), (by first | rfl | (simp; done) | (simp [*]; done)), H', ⟨by have := HJ5.out; have := HJ10.out; first | omega | exact Nat.le_refl _⟩, by repeat (first | exact Drawn0.refl _ | apply Drawn0.step)⟩
                    · replace c20 := Bool.eq_false_iff.mpr c20
                      subst c20
                      have H1 : (crierref1_Point.j2 kj10 a0 a1 t104 t105 false) = some r := by rw [if_neg (show ¬ (false = true) by decide)] at H; exact H
                      clear H
                      have H := H1
                      clear H1
                      have H' := Aside0.mk H
                      clear H
                      go_wp2_with (first | ((with_reducible refine gate_callee (f := 82) rfl ?_); refine goesL_ (some 44) rfl rfl Try.func82 (by kernel_rfl) rfl #[.int .u8 t104, .int .u8 225, .int .u8 236] rfl (by (try simp only [List.map_toArray, List.map_cons, List.map_nil]); first | done | rfl | (simp only [List.length_drop, List.length_take]; rfl)) ?_; (with_reducible refine (crierref1_within.calls t104 225 236 false _ A19.out).mono ?_); rintro e w' ⟨rfl, ⟨nd, rfl⟩⟩; refine ⟨_, rfl, ?_⟩))
                      go_meet
                      case rel => exact ⟨_, (false), (by first | rfl | (simp; done) | (simp [*]; done)), H', ⟨by have := HJ5.out; have := HJ10.out; first | omega | exact Nat.le_refl _⟩, by repeat (first | exact Drawn0.refl _ | apply Drawn0.step)⟩
                  case rest =>
                    clear HC18
                    try clear c1
                    try clear c2
                    try clear p2
                    try clear c5
                    try clear c5b0
                    try clear c6
                    try clear p6
                    try clear c8
                    try clear c10
                    try clear c12
                    try clear c12b0
                    try clear c12b1
                    try clear c14
                    try clear c17
                    try clear c20
                    try clear p2
                    try clear p6
                    obtain ⟨kq, x28_17, rfl, HA, HJ17, ⟨mc17, rfl⟩⟩ := hcut
                    cases kq with
                    | zero => exact absurd HA.out (by simp [crierref1_Point.j2])
                    | succ kj17 =>
                      have H := HA.out
                      clear HA
                      simp only [crierref1_Point.j2] at H
                      by_cases c22 : x28_17 = true
                      · subst c22
                        have H1 : (crierref1_Point.j4 kj17 a0 a1 t104 t105 true) = some r := by rw [if_pos rfl] at H; exact H
                        clear H
                        have H := H1
                        clear H1
                        have H' := Aside0.mk H
                        clear H
                        go_wp2
                        go_meet
                        case rel => exact ⟨_, (true), (by first | rfl | (simp; done) | (simp [*]; done)), H', ⟨by have := HJ5.out; have := HJ10.out; have := HJ17.out; first | omega | exact Nat.le_refl _⟩, by repeat (first | exact Drawn0.refl _ | apply Drawn0.step)⟩
                      · replace c22 := Bool.eq_false_iff.mpr c22
                        subst c22
                        have H1 : (if t104 = 237 then ((crierref1_within.f t105 128 159).bind fun t112 => (if t112 = true then ((crierref1_tail.f kj17 a0 (wrap64 (a1 + 2)) (wrap64 (a1 + 3))).bind fun t113 => (crierref1_Point.j3 kj17 a0 a1 t104 t105 t113)) else (crierref1_Point.j3 kj17 a0 a1 t104 t105 false))) else (crierref1_Point.j3 kj17 a0 a1 t104 t105 false)) = some r := by rw [if_neg (show ¬ (false = true) by decide)] at H; exact H
                        clear H
                        have H := H1
                        clear H1
                        have HC23 := Aside0.mk H
                        clear H
                        go_upto_region 8 with (fail)
                        go_cut [28] (fun v28 wc => ∃ (kq : Nat) (x28_22 : Bool), v28 = .bool x28_22 ∧ Aside0 (crierref1_Point.j3 kq a0 a1 t104 t105 x28_22 = some r) ∧ Aside0 (kq ≤ kj17) ∧ Drawn0 w wc)
                        case first =>
                          have H := HC23.out
                          clear HC23
                          by_cases c24 : t104 = 237
                          · rw [if_pos c24] at H
                            have c24b0 : (t104 == 237) = true := beq_iff_eq.mpr c24
                            have c24b1 : (t104 != 237) = false := bne_eq_false_iff_eq.mpr c24
                            clear c24
                            (first | rw [c24b0] | (simp only [i64_w, i32_w]; rw [c24b0]) | skip)
                            replace H := Option.bind_eq_some_iff.mp H
                            obtain ⟨t112, A250, H⟩ := H
                            replace H : (if t112 = true then ((crierref1_tail.f kj17 a0 (wrap64 (a1 + 2)) (wrap64 (a1 + 3))).bind fun t113 => (crierref1_Point.j3 kj17 a0 a1 t104 t105 t113)) else (crierref1_Point.j3 kj17 a0 a1 t104 t105 false)) = some r := H
                            have A25 := Aside0.mk A250
                            clear A250
                            by_cases c26 : t112 = true
                            · subst c26
                              have H1 : ((crierref1_tail.f kj17 a0 (wrap64 (a1 + 2)) (wrap64 (a1 + 3))).bind fun t113 => (crierref1_Point.j3 kj17 a0 a1 t104 t105 t113)) = some r := by rw [if_pos rfl] at H; exact H
                              clear H
                              have H := H1
                              clear H1
                              replace H := Option.bind_eq_some_iff.mp H
                              obtain ⟨t113, A270, H⟩ := H
                              replace H : (crierref1_Point.j3 kj17 a0 a1 t104 t105 t113) = some r := H
                              have A27 := Aside0.mk A270
                              clear A270
                              have H' := Aside0.mk H
                              clear H
                              go_wp2_with (first | (go_at_call 82; (with_reducible refine (crierref1_within.calls t105 128 159 true _ A25.out).mono ?_); rintro e w' ⟨rfl, ⟨nd, rfl⟩⟩) | (go_at_call 83; (with_reducible refine (crierref1_tail.calls kj17 a0 (wrap64 (a1 + 2)) (wrap64 (a1 + 3)) t113 _ A27.out).mono ?_); rintro e w' ⟨rfl, ⟨nd, rfl⟩⟩))
                              go_meet
                              case rel => exact ⟨_, (t113), (by first | rfl | (simp; done) | (simp [*]; done)), H', ⟨by have := HJ5.out; have := HJ10.out; have := HJ17.out; first | omega | exact Nat.le_refl _⟩, by repeat (first | exact Drawn0.refl _ | apply Drawn0.step)⟩
                            · replace c26 := Bool.eq_false_iff.mpr c26
                              subst c26
                              have H1 : (crierref1_Point.j3 kj17 a0 a1 t104 t105 false) = some r := by rw [if_neg (show ¬ (false = true) by decide)] at H; exact H
                              clear H
                              have H := H1
                              clear H1
                              have H' := Aside0.mk H
                              clear H
                              go_wp2_with (first | (go_at_call 82; (with_reducible refine (crierref1_within.calls t105 128 159 false _ A25.out).mono ?_); rintro e w' ⟨rfl, ⟨nd, rfl⟩⟩))
                              go_meet
                              case rel => exact ⟨_, (false), (by first | rfl | (simp; done) | (simp [*]; done)), H', ⟨by have := HJ5.out; have := HJ10.out; have := HJ17.out; first | omega | exact Nat.le_refl _⟩, by repeat (first | exact Drawn0.refl _ | apply Drawn0.step)⟩
                          · rw [if_neg c24] at H
                            have c24b0 : (t104 == 237) = false := beq_eq_false_iff_ne.mpr c24
                            have c24b1 : (t104 != 237) = true := bne_iff_ne.mpr c24
                            (first | rw [c24b0] | (simp only [i64_w, i32_w]; rw [c24b0]) | skip)
                            have H' := Aside0.mk H
                            clear H
                            go_wp2
                            go_meet
                            case rel => exact ⟨_, (false), (by first | rfl | (simp; done) | (simp [*]; done)), H', ⟨by have := HJ5.out; have := HJ10.out; have := HJ17.out; first | omega | exact Nat.le_refl _⟩, by repeat (first | exact Drawn0.refl _ | apply Drawn0.step)⟩
                        case rest =>
                          clear HC23
                          try clear c1
                          try clear c2
                          try clear p2
                          try clear c5
                          try clear c5b0
                          try clear c6
                          try clear p6
                          try clear c8
                          try clear c10
                          try clear c12
                          try clear c12b0
                          try clear c12b1
                          try clear c14
                          try clear c17
                          try clear c20
                          try clear c22
                          try clear c24
                          try clear c24b0
                          try clear c24b1
                          try clear c26
                          try clear p2
                          try clear p6
                          obtain ⟨kq, x28_22, rfl, HA, HJ22, ⟨mc22, rfl⟩⟩ := hcut
                          cases kq with
                          | zero => exact absurd HA.out (by simp [crierref1_Point.j3])
                          | succ kj22 =>
                            have H := HA.out
                            clear HA
                            simp only [crierref1_Point.j3] at H
                            by_cases c28 : x28_22 = true
                            · subst c28
                              have H1 : (crierref1_Point.j4 kj22 a0 a1 t104 t105 true) = some r := by rw [if_pos rfl] at H; exact H
                              clear H
                              have H := H1
                              clear H1
                              have H' := Aside0.mk H
                              clear H
                              go_wp2
                              go_meet
                              case rel => exact ⟨_, (true), (by first | rfl | (simp; done) | (simp [*]; done)), H', ⟨by have := HJ5.out; have := HJ10.out; have := HJ17.out; have := HJ22.out; first | omega | exact Nat.le_refl _⟩, by repeat (first | exact Drawn0.refl _ | apply Drawn0.step)⟩
                            · replace c28 := Bool.eq_false_iff.mpr c28
                              subst c28
                              have H1 : ((crierref1_within.f t104 238 239).bind fun t114 => (if t114 = true then ((crierref1_tail.f kj22 a0 (wrap64 (a1 + 1)) (wrap64 (a1 + 3))).bind fun t115 => (crierref1_Point.j4 kj22 a0 a1 t104 t105 t115)) else (crierref1_Point.j4 kj22 a0 a1 t104 t105 false))) = some r := by rw [if_neg (show ¬ (false = true) by decide)] at H; exact H
                              clear H
                              have H := H1
                              clear H1
                              replace H := Option.bind_eq_some_iff.mp H
                              obtain ⟨t114, A290, H⟩ := H
                              replace H : (if t114 = true then ((crierref1_tail.f kj22 a0 (wrap64 (a1 + 1)) (wrap64 (a1 + 3))).bind fun t115 => (crierref1_Point.j4 kj22 a0 a1 t104 t105 t115)) else (crierref1_Point.j4 kj22 a0 a1 t104 t105 false)) = some r := H
                              have A29 := Aside0.mk A290
                              clear A290
                              by_cases c30 : t114 = true
                              · subst c30
                                have H1 : ((crierref1_tail.f kj22 a0 (wrap64 (a1 + 1)) (wrap64 (a1 + 3))).bind fun t115 => (crierref1_Point.j4 kj22 a0 a1 t104 t105 t115)) = some r := by rw [if_pos rfl] at H; exact H
                                clear H
                                have H := H1
                                clear H1
                                replace H := Option.bind_eq_some_iff.mp H
                                obtain ⟨t115, A310, H⟩ := H
                                replace H : (crierref1_Point.j4 kj22 a0 a1 t104 t105 t115) = some r := H
                                have A31 := Aside0.mk A310
                                clear A310
                                have H' := Aside0.mk H
                                clear H
                                go_wp2_with (first | ((with_reducible refine gate_callee (f := 82) rfl ?_); refine goesL_ (some 68) rfl rfl Try.func82 (by kernel_rfl) rfl #[.int .u8 t104, .int .u8 238, .int .u8 239] rfl (by (try simp only [List.map_toArray, List.map_cons, List.map_nil]); first | done | rfl | (simp only [List.length_drop, List.length_take]; rfl)) ?_; (with_reducible refine (crierref1_within.calls t104 238 239 true _ A29.out).mono ?_); rintro e w' ⟨rfl, ⟨nd, rfl⟩⟩; refine ⟨_, rfl, ?_⟩) | (go_at_call 83; (with_reducible refine (crierref1_tail.calls kj22 a0 (wrap64 (a1 + 1)) (wrap64 (a1 + 3)) t115 _ A31.out).mono ?_); rintro e w' ⟨rfl, ⟨nd, rfl⟩⟩))
                                go_meet
                                case rel => exact ⟨_, (t115), (by first | rfl | (simp; done) | (simp [*]; done)), H', ⟨by have := HJ5.out; have := HJ10.out; have := HJ17.out; have := HJ22.out; first | omega | exact Nat.le_refl _⟩, by repeat (first | exact Drawn0.refl _ | apply Drawn0.step)⟩
                              · replace c30 := Bool.eq_false_iff.mpr c30
                                subst c30
                                have H1 : (crierref1_Point.j4 kj22 a0 a1 t104 t105 false) = some r := by rw [if_neg (show ¬ (false = true) by decide)] at H; exact H
                                clear H
                                have H := H1
                                clear H1
                                have H' := Aside0.mk H
                                clear H
                                go_wp2_with (first | ((with_reducible refine gate_callee (f := 82) rfl ?_); refine goesL_ (some 68) rfl rfl Try.func82 (by kernel_rfl) rfl #[.int .u8 t104, .int .u8 238, .int .u8 239] rfl (by (try simp only [List.map_toArray, List.map_cons, List.map_nil]); first | done | rfl | (simp only [List.length_drop, List.length_take]; rfl)) ?_; (with_reducible refine (crierref1_within.calls t104 238 239 false _ A29.out).mono ?_); rintro e w' ⟨rfl, ⟨nd, rfl⟩⟩; refine ⟨_, rfl, ?_⟩))
                                go_meet
                                case rel => exact ⟨_, (false), (by first | rfl | (simp; done) | (simp [*]; done)), H', ⟨by have := HJ5.out; have := HJ10.out; have := HJ17.out; have := HJ22.out; first | omega | exact Nat.le_refl _⟩, by repeat (first | exact Drawn0.refl _ | apply Drawn0.step)⟩
              case rest =>
                clear HC16
                try clear c1
                try clear c2
                try clear p2
                try clear c3
                try clear c5
                try clear c5b0
                try clear c6
                try clear p6
                try clear c8
                try clear c10
                try clear c12
                try clear c12b0
                try clear c12b1
                try clear c14
                try clear c17
                try clear c20
                try clear c22
                try clear c24
                try clear c24b0
                try clear c24b1
                try clear c26
                try clear c28
                try clear c30
                try clear p2
                try clear p6
                obtain ⟨kq, x28_15, rfl, HA, HJ15, ⟨mc15, rfl⟩⟩ := hcut
                cases kq with
                | zero => exact absurd HA.out (by simp [crierref1_Point.j4])
                | succ kj15 =>
                  have H := HA.out
                  clear HA
                  simp only [crierref1_Point.j4] at H
                  by_cases c32 : x28_15 = true
                  · subst c32
                    have H1 : (some 3) = some r := by rw [if_pos rfl] at H; exact H
                    clear H
                    have H := H1
                    clear H1
                    obtain rfl := Option.some.inj H
                    go_wp2
                    go_ret
                    exact ⟨by first | rfl | (simp; done) | (simp [*]; done), by repeat (first | exact Drawn0.refl _ | apply Drawn0.step)⟩
                  · replace c32 := Bool.eq_false_iff.mpr c32
                    subst c32
                    have H1 : (if t104 = 240 then ((crierref1_within.f t105 144 191).bind fun t116 => (if t116 = true then ((crierref1_tail.f kj15 a0 (wrap64 (a1 + 2)) (wrap64 (a1 + 4))).bind fun t117 => (crierref1_Point.j5 kj15 a0 a1 t104 t105 t117)) else (crierref1_Point.j5 kj15 a0 a1 t104 t105 false))) else (crierref1_Point.j5 kj15 a0 a1 t104 t105 false)) = some r := by rw [if_neg (show ¬ (false = true) by decide)] at H; exact H
                    clear H
                    have H := H1
                    clear H1
                    have HC33 := Aside0.mk H
                    clear H
                    go_upto_region 11 with (fail)
                    go_cut [77] (fun v77 wc => ∃ (kq : Nat) (x77_32 : Bool), v77 = .bool x77_32 ∧ Aside0 (crierref1_Point.j5 kq a0 a1 t104 t105 x77_32 = some r) ∧ Aside0 (kq ≤ kj15) ∧ Drawn0 w wc)
                    case first =>
                      have H := HC33.out
                      clear HC33
                      by_cases c34 : t104 = 240
                      · rw [if_pos c34] at H
                        have c34b0 : (t104 == 240) = true := beq_iff_eq.mpr c34
                        have c34b1 : (t104 != 240) = false := bne_eq_false_iff_eq.mpr c34
                        clear c34
                        (first | rw [c34b0] | (simp only [i64_w, i32_w]; rw [c34b0]) | skip)
                        replace H := Option.bind_eq_some_iff.mp H
                        obtain ⟨t116, A350, H⟩ := H
                        replace H : (if t116 = true then ((crierref1_tail.f kj15 a0 (wrap64 (a1 + 2)) (wrap64 (a1 + 4))).bind fun t117 => (crierref1_Point.j5 kj15 a0 a1 t104 t105 t117)) else (crierref1_Point.j5 kj15 a0 a1 t104 t105 false)) = some r := H
                        have A35 := Aside0.mk A350
                        clear A350
                        by_cases c36 : t116 = true
                        · subst c36
                          have H1 : ((crierref1_tail.f kj15 a0 (wrap64 (a1 + 2)) (wrap64 (a1 + 4))).bind fun t117 => (crierref1_Point.j5 kj15 a0 a1 t104 t105 t117)) = some r := by rw [if_pos rfl] at H; exact H
                          clear H
                          have H := H1
                          clear H1
                          replace H := Option.bind_eq_some_iff.mp H
                          obtain ⟨t117, A370, H⟩ := H
                          replace H : (crierref1_Point.j5 kj15 a0 a1 t104 t105 t117) = some r := H
                          have A37 := Aside0.mk A370
                          clear A370
                          have H' := Aside0.mk H
                          clear H
                          go_wp2_with (first | (go_at_call 82; (with_reducible refine (crierref1_within.calls t105 144 191 true _ A35.out).mono ?_); rintro e w' ⟨rfl, ⟨nd, rfl⟩⟩) | (go_at_call 83; (with_reducible refine (crierref1_tail.calls kj15 a0 (wrap64 (a1 + 2)) (wrap64 (a1 + 4)) t117 _ A37.out).mono ?_); rintro e w' ⟨rfl, ⟨nd, rfl⟩⟩))
                          go_meet
                          case rel => exact ⟨_, (t117), (by first | rfl | (simp; done) | (simp [*]; done)), H', ⟨by have := HJ5.out; have := HJ10.out; have := HJ15.out; first | omega | exact Nat.le_refl _⟩, by repeat (first | exact Drawn0.refl _ | apply Drawn0.step)⟩
                        · replace c36 := Bool.eq_false_iff.mpr c36
                          subst c36
                          have H1 : (crierref1_Point.j5 kj15 a0 a1 t104 t105 false) = some r := by rw [if_neg (show ¬ (false = true) by decide)] at H; exact H
                          clear H
                          have H := H1
                          clear H1
                          have H' := Aside0.mk H
                          clear H
                          go_wp2_with (first | (go_at_call 82; (with_reducible refine (crierref1_within.calls t105 144 191 false _ A35.out).mono ?_); rintro e w' ⟨rfl, ⟨nd, rfl⟩⟩))
                          go_meet
                          case rel => exact ⟨_, (false), (by first | rfl | (simp; done) | (simp [*]; done)), H', ⟨by have := HJ5.out; have := HJ10.out; have := HJ15.out; first | omega | exact Nat.le_refl _⟩, by repeat (first | exact Drawn0.refl _ | apply Drawn0.step)⟩
                      · rw [if_neg c34] at H
                        have c34b0 : (t104 == 240) = false := beq_eq_false_iff_ne.mpr c34
                        have c34b1 : (t104 != 240) = true := bne_iff_ne.mpr c34
                        (first | rw [c34b0] | (simp only [i64_w, i32_w]; rw [c34b0]) | skip)
                        have H' := Aside0.mk H
                        clear H
                        go_wp2
                        go_meet
                        case rel => exact ⟨_, (false), (by first | rfl | (simp; done) | (simp [*]; done)), H', ⟨by have := HJ5.out; have := HJ10.out; have := HJ15.out; first | omega | exact Nat.le_refl _⟩, by repeat (first | exact Drawn0.refl _ | apply Drawn0.step)⟩
                    case rest =>
                      clear HC33
                      try clear c1
                      try clear c2
                      try clear p2
                      try clear c3
                      try clear c5
                      try clear c5b0
                      try clear c6
                      try clear p6
                      try clear c8
                      try clear c10
                      try clear c12
                      try clear c12b0
                      try clear c12b1
                      try clear c14
                      try clear c15
                      try clear c17
                      try clear c20
                      try clear c22
                      try clear c24
                      try clear c24b0
                      try clear c24b1
                      try clear c26
                      try clear c28
                      try clear c30
                      try clear c32
                      try clear c34
                      try clear c34b0
                      try clear c34b1
                      try clear c36
                      try clear p2
                      try clear p6
                      obtain ⟨kq, x77_32, rfl, HA, HJ32, ⟨mc32, rfl⟩⟩ := hcut
                      cases kq with
                      | zero => exact absurd HA.out (by simp [crierref1_Point.j5])
                      | succ kj32 =>
                        have H := HA.out
                        clear HA
                        simp only [crierref1_Point.j5] at H
                        by_cases c38 : x77_32 = true
                        · subst c38
                          have H1 : (some 4) = some r := by rw [if_pos rfl] at H; exact H
                          clear H
                          have H := H1
                          clear H1
                          obtain rfl := Option.some.inj H
                          go_wp2
                          go_ret
                          exact ⟨by first | rfl | (simp; done) | (simp [*]; done), by repeat (first | exact Drawn0.refl _ | apply Drawn0.step)⟩
                        · replace c38 := Bool.eq_false_iff.mpr c38
                          subst c38
                          have H1 : ((crierref1_within.f t104 241 243).bind fun t118 => (if t118 = true then ((crierref1_tail.f kj32 a0 (wrap64 (a1 + 1)) (wrap64 (a1 + 4))).bind fun t119 => (crierref1_Point.j6 kj32 a0 a1 t104 t105 t119)) else (crierref1_Point.j6 kj32 a0 a1 t104 t105 false))) = some r := by rw [if_neg (show ¬ (false = true) by decide)] at H; exact H
                          clear H
                          have H := H1
                          clear H1
                          have HC39 := Aside0.mk H
                          clear H
                          go_upto_region 12 with (fail)
                          go_cut [77] (fun v77 wc => ∃ (kq : Nat) (x77_38 : Bool), v77 = .bool x77_38 ∧ Aside0 (crierref1_Point.j6 kq a0 a1 t104 t105 x77_38 = some r) ∧ Aside0 (kq ≤ kj32) ∧ Drawn0 w wc)
                          case first =>
                            have H := HC39.out
                            clear HC39
                            replace H := Option.bind_eq_some_iff.mp H
                            obtain ⟨t118, A400, H⟩ := H
                            replace H : (if t118 = true then ((crierref1_tail.f kj32 a0 (wrap64 (a1 + 1)) (wrap64 (a1 + 4))).bind fun t119 => (crierref1_Point.j6 kj32 a0 a1 t104 t105 t119)) else (crierref1_Point.j6 kj32 a0 a1 t104 t105 false)) = some r := H
                            have A40 := Aside0.mk A400
                            clear A400
                            by_cases c41 : t118 = true
                            · subst c41
                              have H1 : ((crierref1_tail.f kj32 a0 (wrap64 (a1 + 1)) (wrap64 (a1 + 4))).bind fun t119 => (crierref1_Point.j6 kj32 a0 a1 t104 t105 t119)) = some r := by rw [if_pos rfl] at H; exact H
                              clear H
                              have H := H1
                              clear H1
                              replace H := Option.bind_eq_some_iff.mp H
                              obtain ⟨t119, A420, H⟩ := H
                              replace H : (crierref1_Point.j6 kj32 a0 a1 t104 t105 t119) = some r := H
                              have A42 := Aside0.mk A420
                              clear A420
                              have H' := Aside0.mk H
                              clear H
                              go_wp2_with (first | ((with_reducible refine gate_callee (f := 82) rfl ?_); refine goesL_ (some 93) rfl rfl Try.func82 (by kernel_rfl) rfl #[.int .u8 t104, .int .u8 241, .int .u8 243] rfl (by (try simp only [List.map_toArray, List.map_cons, List.map_nil]); first | done | rfl | (simp only [List.length_drop, List.length_take]; rfl)) ?_; (with_reducible refine (crierref1_within.calls t104 241 243 true _ A40.out).mono ?_); rintro e w' ⟨rfl, ⟨nd, rfl⟩⟩; refine ⟨_, rfl, ?_⟩) | (go_at_call 83; (with_reducible refine (crierref1_tail.calls kj32 a0 (wrap64 (a1 + 1)) (wrap64 (a1 + 4)) t119 _ A42.out).mono ?_); rintro e w' ⟨rfl, ⟨nd, rfl⟩⟩))
                              go_meet
                              case rel => exact ⟨_, (t119), (by first | rfl | (simp; done) | (simp [*]; done)), H', ⟨by have := HJ5.out; have := HJ10.out; have := HJ15.out; have := HJ32.out; first | omega | exact Nat.le_refl _⟩, by repeat (first | exact Drawn0.refl _ | apply Drawn0.step)⟩
                            · replace c41 := Bool.eq_false_iff.mpr c41
                              subst c41
                              have H1 : (crierref1_Point.j6 kj32 a0 a1 t104 t105 false) = some r := by rw [if_neg (show ¬ (false = true) by decide)] at H; exact H
                              clear H
                              have H := H1
                              clear H1
                              have H' := Aside0.mk H
                              clear H
                              go_wp2_with (first | ((with_reducible refine gate_callee (f := 82) rfl ?_); refine goesL_ (some 93) rfl rfl Try.func82 (by kernel_rfl) rfl #[.int .u8 t104, .int .u8 241, .int .u8 243] rfl (by (try simp only [List.map_toArray, List.map_cons, List.map_nil]); first | done | rfl | (simp only [List.length_drop, List.length_take]; rfl)) ?_; (with_reducible refine (crierref1_within.calls t104 241 243 false _ A40.out).mono ?_); rintro e w' ⟨rfl, ⟨nd, rfl⟩⟩; refine ⟨_, rfl, ?_⟩))
                              go_meet
                              case rel => exact ⟨_, (false), (by first | rfl | (simp; done) | (simp [*]; done)), H', ⟨by have := HJ5.out; have := HJ10.out; have := HJ15.out; have := HJ32.out; first | omega | exact Nat.le_refl _⟩, by repeat (first | exact Drawn0.refl _ | apply Drawn0.step)⟩
                          case rest =>
                            clear HC39
                            try clear c1
                            try clear c2
                            try clear p2
                            try clear c3
                            try clear c4
                            try clear c5
                            try clear c5b0
                            try clear c6
                            try clear p6
                            try clear c8
                            try clear c10
                            try clear c12
                            try clear c12b0
                            try clear c12b1
                            try clear c14
                            try clear c15
                            try clear c17
                            try clear c20
                            try clear c22
                            try clear c24
                            try clear c24b0
                            try clear c24b1
                            try clear c26
                            try clear c28
                            try clear c30
                            try clear c32
                            try clear c34
                            try clear c34b0
                            try clear c34b1
                            try clear c36
                            try clear c38
                            try clear c41
                            try clear p2
                            try clear p6
                            obtain ⟨kq, x77_38, rfl, HA, HJ38, ⟨mc38, rfl⟩⟩ := hcut
                            cases kq with
                            | zero => exact absurd HA.out (by simp [crierref1_Point.j6])
                            | succ kj38 =>
                              have H := HA.out
                              clear HA
                              simp only [crierref1_Point.j6] at H
                              by_cases c43 : x77_38 = true
                              · subst c43
                                have H1 : (some 4) = some r := by rw [if_pos rfl] at H; exact H
                                clear H
                                have H := H1
                                clear H1
                                obtain rfl := Option.some.inj H
                                go_wp2
                                go_ret
                                exact ⟨by first | rfl | (simp; done) | (simp [*]; done), by repeat (first | exact Drawn0.refl _ | apply Drawn0.step)⟩
                              · replace c43 := Bool.eq_false_iff.mpr c43
                                subst c43
                                have H1 : (if t104 = 244 then ((crierref1_within.f t105 128 143).bind fun t120 => (if t120 = true then ((crierref1_tail.f kj38 a0 (wrap64 (a1 + 2)) (wrap64 (a1 + 4))).bind fun t121 => (if t121 = true then (some 4) else (some 0))) else (some 0))) else (some 0)) = some r := by rw [if_neg (show ¬ (false = true) by decide)] at H; exact H
                                clear H
                                have H := H1
                                clear H1
                                by_cases c44 : t104 = 244
                                · rw [if_pos c44] at H
                                  have c44b0 : (t104 == 244) = true := beq_iff_eq.mpr c44
                                  have c44b1 : (t104 != 244) = false := bne_eq_false_iff_eq.mpr c44
                                  clear c44
                                  replace H := Option.bind_eq_some_iff.mp H
                                  obtain ⟨t120, A450, H⟩ := H
                                  replace H : (if t120 = true then ((crierref1_tail.f kj38 a0 (wrap64 (a1 + 2)) (wrap64 (a1 + 4))).bind fun t121 => (if t121 = true then (some 4) else (some 0))) else (some 0)) = some r := H
                                  have A45 := Aside0.mk A450
                                  clear A450
                                  by_cases c46 : t120 = true
                                  · subst c46
                                    have H1 : ((crierref1_tail.f kj38 a0 (wrap64 (a1 + 2)) (wrap64 (a1 + 4))).bind fun t121 => (if t121 = true then (some 4) else (some 0))) = some r := by rw [if_pos rfl] at H; exact H
                                    clear H
                                    have H := H1
                                    clear H1
                                    replace H := Option.bind_eq_some_iff.mp H
                                    obtain ⟨t121, A470, H⟩ := H
                                    replace H : (if t121 = true then (some 4) else (some 0)) = some r := H
                                    have A47 := Aside0.mk A470
                                    clear A470
                                    by_cases c48 : t121 = true
                                    · subst c48
                                      have H1 : (some 4) = some r := by rw [if_pos rfl] at H; exact H
                                      clear H
                                      have H := H1
                                      clear H1
                                      obtain rfl := Option.some.inj H
                                      go_wp2_with (first | (go_at_call 82; (with_reducible refine (crierref1_within.calls t105 128 143 true _ A45.out).mono ?_); rintro e w' ⟨rfl, ⟨nd, rfl⟩⟩) | (go_at_call 83; (with_reducible refine (crierref1_tail.calls kj38 a0 (wrap64 (a1 + 2)) (wrap64 (a1 + 4)) true _ A47.out).mono ?_); rintro e w' ⟨rfl, ⟨nd, rfl⟩⟩))
                                      go_ret
                                      exact ⟨by first | rfl | (simp; done) | (simp [*]; done), by repeat (first | exact Drawn0.refl _ | apply Drawn0.step)⟩
                                    · replace c48 := Bool.eq_false_iff.mpr c48
                                      subst c48
                                      have H1 : (some 0) = some r := by rw [if_neg (show ¬ (false = true) by decide)] at H; exact H
                                      clear H
                                      have H := H1
                                      clear H1
                                      obtain rfl := Option.some.inj H
                                      go_wp2_with (first | (go_at_call 82; (with_reducible refine (crierref1_within.calls t105 128 143 true _ A45.out).mono ?_); rintro e w' ⟨rfl, ⟨nd, rfl⟩⟩) | (go_at_call 83; (with_reducible refine (crierref1_tail.calls kj38 a0 (wrap64 (a1 + 2)) (wrap64 (a1 + 4)) false _ A47.out).mono ?_); rintro e w' ⟨rfl, ⟨nd, rfl⟩⟩))
                                      go_ret
                                      exact ⟨by first | rfl | (simp; done) | (simp [*]; done), by repeat (first | exact Drawn0.refl _ | apply Drawn0.step)⟩
                                  · replace c46 := Bool.eq_false_iff.mpr c46
                                    subst c46
                                    have H1 : (some 0) = some r := by rw [if_neg (show ¬ (false = true) by decide)] at H; exact H
                                    clear H
                                    have H := H1
                                    clear H1
                                    obtain rfl := Option.some.inj H
                                    go_wp2_with (first | (go_at_call 82; (with_reducible refine (crierref1_within.calls t105 128 143 false _ A45.out).mono ?_); rintro e w' ⟨rfl, ⟨nd, rfl⟩⟩))
                                    go_ret
                                    exact ⟨by first | rfl | (simp; done) | (simp [*]; done), by repeat (first | exact Drawn0.refl _ | apply Drawn0.step)⟩
                                · rw [if_neg c44] at H
                                  have c44b0 : (t104 == 244) = false := beq_eq_false_iff_ne.mpr c44
                                  have c44b1 : (t104 != 244) = true := bne_iff_ne.mpr c44
                                  obtain rfl := Option.some.inj H
                                  go_wp2
                                  go_ret
                                  exact ⟨by first | rfl | (simp; done) | (simp [*]; done), by repeat (first | exact Drawn0.refl _ | apply Drawn0.step)⟩

end Go.Proofs.Ytjccmlmkcjmicaa.PWireChecks

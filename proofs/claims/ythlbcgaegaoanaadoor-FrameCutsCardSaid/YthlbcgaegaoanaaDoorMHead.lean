/- packet's tables, May, and codec's head. No statement of the program. UNDER WAY packet's small tests: text, isQoS, numbered, sameMessage with nothing. No statement of the program. -/
import Derived.Test.YthlbcgaegaoanaaDoorMRdr
import Derived.WalkMore
import Derived.ScopeJumps
namespace Go.Proofs.YthlbcgaegaoanaaDoor.Cr
open Go Go.RowKit Go.Proofs.YthlbcgaegaoanaaDoorW.PrintWords Go.Proofs.YthlbcgaegaoanaaDoorW.PrintLast Go.Proofs.YthlbcgaegaoanaaDoorW.PrintMore Go.Proofs.YthlbcgaegaoanaaDoor.Kinds Go.Proofs.YthlbcgaegaoanaaDoor.Rdr
set_option linter.unusedVariables false
set_option linter.unusedSimpArgs false
def hasL : List Int := [0, 1, 2, 4, 8, 8, 8, 8, 24, 40, 72, 8, 0, 0, 0]
def flagL : List Int := [0, 0, 0, 0, 0, 0, 2, 0, 2, 0, 2, 0, 0, 0, 0]
structure Gl (w : World) : Prop where
  has : ∀ k, k < 15 → w.cell? ⟨1, k, none⟩ = some (.int .i64 (hasL.getD k 0))
  flags : ∀ k, k < 15 → w.cell? ⟨2, k, none⟩ = some (.int .i64 (flagL.getD k 0))
  et : w.cell? ⟨0, 0, none⟩ = some (.iface 106 (.agg #[.pointer (some ⟨4, 45, none⟩)]))
  sz : 3 ≤ w.heap.size
theorem Gl.fr {w w1 : World} {ok : Nat → Prop} (h : Gl w) (hf : Fr ok w w1) (hok : ∀ k, k < 3 → ¬ ok k) : Gl w1 := by
  have hc : ∀ b o, b < 3 → w1.cell? ⟨b, o, none⟩ = w.cell? ⟨b, o, none⟩ := fun b o hb => by
    simp only [World.cell?, hf.block b (Nat.lt_of_lt_of_le hb h.sz) (hok b hb)]
  exact ⟨fun k hk => (hc _ _ (by decide)).trans (h.has k hk), fun k hk => (hc _ _ (by decide)).trans (h.flags k hk), (hc _ _ (by decide)).trans h.et, Nat.le_trans h.sz hf.size⟩
theorem Gl.below {w w1 : World} {b : Nat} (h : Gl w) (hb : Below b w w1) (h4 : 3 ≤ b) (hs : w.heap.size ≤ w1.heap.size) : Gl w1 := by
  have hc : ∀ c o, c < 3 → w1.cell? ⟨c, o, none⟩ = w.cell? ⟨c, o, none⟩ := fun c o hc => by
    simp only [World.cell?, hb.block c (Nat.lt_of_lt_of_le hc h4)]
  exact ⟨fun k hk => (hc _ _ (by decide)).trans (h.has k hk), fun k hk => (hc _ _ (by decide)).trans (h.flags k hk), (hc _ _ (by decide)).trans h.et, Nat.le_trans h.sz hs⟩
theorem isKind_any (k : Int) (w : World) (h0 : 1 ≤ k) (h1 : k ≤ 14) :
    Calls Tryd.prog 37 #[.int .i64 k] w fun e w' => e = .returned (.bool true) ∧ w = w' := by
  have a0 : decide (k ≥ 1) = true := decide_eq_true h0
  have a1 : decide (k ≤ 14) = true := decide_eq_true h1
  go_enter Tryd.func37, Tryd.ntmps37
  go_wp2
  go_ret
  exact ⟨rfl, rfl⟩
def mayB (k f : Int) : Bool := if k = 3 then (bits .and .i64 f 6 != 6) && (decide (f < 8) || decide (bits .and .i64 f 6 > 0)) else f == flagL.getD k.toNat 0
theorem may_other {w : World} (hg : Gl w) (k f : Int) (h0 : 1 ≤ k) (h1 : k ≤ 14) (h3 : k ≠ 3) :
    Calls Tryd.prog 27 #[.int .i64 k, .int .i64 f] w fun e w' => e = .returned (.bool (f == flagL.getD k.toNat 0)) ∧ w = w' := by
  have b0 : (k != 3) = true := by simpa using h3
  have p0 : (0 : Int) ≤ k := by omega
  have p1 : k < 15 := by omega
  have x := hg.flags k.toNat (by omega)
  clear hg
  generalize flagL.getD k.toNat 0 = q at *
  go_enter Tryd.func27, Tryd.ntmps27
  go_wp2_with (go_at_call 37; refine (isKind_any k _ h0 h1).mono ?_; rintro e w1 ⟨rfl, rfl⟩)
  go_ret
  exact ⟨rfl, rfl⟩
theorem may_pub {w : World} (f : Int) (hf0 : 0 ≤ f) (hf1 : f ≤ 15) :
    Calls Tryd.prog 27 #[.int .i64 3, .int .i64 f] w fun e w' => e = .returned (.bool ((bits .and .i64 f 6 != 6) && (decide (f < 8) || decide (bits .and .i64 f 6 > 0)))) ∧ w = w' := by
  have a0 : decide (f ≥ 0) = true := decide_eq_true hf0
  have a1 : decide (f < 16) = true := decide_eq_true (by omega)
  go_enter Tryd.func27, Tryd.ntmps27
  go_wp2_with (go_at_call 37; refine (isKind_any 3 _ (by decide) (by decide)).mono ?_; rintro e w1 ⟨rfl, rfl⟩)
  all_goals
    go_ret
    exact ⟨by simp_all, rfl⟩
theorem may_any {w : World} (hg : Gl w) (k f : Int) (h0 : 1 ≤ k) (h1 : k ≤ 14) (hf0 : 0 ≤ f) (hf1 : f ≤ 15) :
    Calls Tryd.prog 27 #[.int .i64 k, .int .i64 f] w fun e w' => e = .returned (.bool (mayB k f)) ∧ w = w' := by
  unfold mayB
  by_cases h3 : k = 3
  · subst h3; rw [if_pos rfl]; exact may_pub f hf0 hf1
  · rw [if_neg h3]; exact may_other hg k f h0 h1 h3
def headG (l : List Int) (most : Int) : Nat → Nat → Int → Int × Int × Option (Int × Int)
  | 0, _, _ => (0, 0, none)
  | k + 1, i, n =>
    if l.length = i then (0, 0, none)
    else if 128 ≤ rd l i ∧ i = 4 then (0, 0, some (4, 12))
    else if 128 ≤ rd l i then headG l most k (i + 1) (n + rd l i % 128 * 128 ^ (i - 1))
    else if n + rd l i % 128 * 128 ^ (i - 1) > most then (0, 0, some (1, 32))
    else ((i : Int) + 1, n + rd l i % 128 * 128 ^ (i - 1), none)
def headP (l : List Int) (most : Int) : Int × Int × Option (Int × Int) :=
  if l.length = 0 then (0, 0, none)
  else if rd l 0 / 16 < 1 ∨ rd l 0 / 16 > 14 then (0, 0, some (0, 30))
  else if mayB (rd l 0 / 16) (rd l 0 % 16) = true then headG l most 4 1 0
  else (0, 0, some (0, 31))
def HeadAt (w w' : World) (e : Ending) (r : Int × Int × Option (Int × Int)) : Prop :=
  ∃ ev, e = .returned (.tuple #[.int .i64 r.1, .int .i64 r.2.1, ev]) ∧ FV w' w.heap.size ev r.2.2 ∧ Below w.heap.size w w'
theorem and15 (b : Int) (h0 : 0 ≤ b) (h1 : b ≤ 255) : bits .and .u8 b 15 = b % 16 := bits_mask .u8 8 (by decide) wraps_u8 4 (by decide) b h0 (by omega)
theorem and127 (b : Int) (h0 : 0 ≤ b) (h1 : b ≤ 255) : bits .and .u8 b 127 = b % 128 := bits_mask .u8 8 (by decide) wraps_u8 7 (by decide) b h0 (by omega)
set_option maxRecDepth 100000 in
theorem head_none (most : Int) (A : Option Addr) (c : Nat) (w : World) :
    Calls Tryd.prog 18 #[.slice A 0 c, .int .i64 most] w fun e w' => HeadAt w w' e (0, 0, none) := by
  go_enter Tryd.func18, Tryd.ntmps18
  go_wp2
  refine wp_scope_jumps 0 (fun _ _ => False) (fun _ _ => 0) rfl ?_ (fun _ _ h => h.elim)
  go_wp2
  simp only [Exit.jump]
  exact bodyPost_ret (results_tmp3 rfl _ _ _) rfl ⟨_, rfl, rfl, Below.refl _ _⟩
/-! plain: one byte of the length -/
theorem step_int (i n b : Int) (h1 : 1 ≤ i) (h4 : i ≤ 4) (hn0 : 0 ≤ n) (hn : n < 128 ^ (i - 1).toNat) (hb : 0 ≤ b) : bits .or .i64 n (shl .i64 (b % 128) (7 * (i - 1))) = n + b % 128 * 128 ^ (i - 1).toNat := by
  obtain ⟨k, hk⟩ : ∃ k : Nat, i - 1 = (k : Int) := ⟨(i - 1).toNat, by omega⟩
  rw [hk] at hn ⊢
  simp only [Int.toNat_natCast] at hn ⊢
  have hb2 : 0 ≤ b % 128 ∧ b % 128 < 128 := by omega
  have e128 : (128 : Int) ^ k = 2 ^ (7 * k) := by rw [show (128 : Int) = 2 ^ 7 by rfl, ← Int.pow_mul]
  unfold shl
  have hm : min (7 * (k : Int)).toNat IntKind.i64.bits = 7 * k := by simp [IntKind.bits]; omega
  rw [hm]
  have hsmall : b % 128 * 2 ^ (7 * k) < 2 ^ 62 := by
    have : (2 : Int) ^ (7 * k) ≤ 2 ^ 21 := by exact_mod_cast Nat.pow_le_pow_right (by decide) (by omega)
    have h3 : b % 128 * 2 ^ (7 * k) ≤ 127 * 2 ^ 21 := Int.mul_le_mul (by omega) this (Int.le_of_lt (Int.pow_pos (by omega))) (by omega)
    omega
  rw [wraps_i64 _ (Int.mul_nonneg hb2.1 (Int.le_of_lt (Int.pow_pos (by omega)))) hsmall, e128]
  exact or_shift (7 * k) (by omega) n (b % 128) hn0 (by rw [← e128]; exact hn) hb2.1 hsmall
theorem step_wrap (i n b : Int) (h1 : 1 ≤ i) (h4 : i ≤ 4) (hn0 : 0 ≤ n) (hn : n < 128 ^ (i - 1).toNat) (hb : 0 ≤ b) : bits .or .i64 n (wrap64 (b % 128 * 2 ^ (7 * (i - 1)).toNat)) = n + b % 128 * 128 ^ (i - 1).toNat := by
  rw [← step_int i n b h1 h4 hn0 hn hb]
  unfold shl
  have hm : min (7 * (i - 1)).toNat IntKind.i64.bits = (7 * (i - 1)).toNat := by simp [IntKind.bits]; omega
  rw [hm]
  congr 1
  rw [IntKind.wrap_i64]
  unfold wrap64
  omega
theorem step_range (i n b : Int) (h1 : 1 ≤ i) (hn0 : 0 ≤ n) (hn : n < 128 ^ (i - 1).toNat) (hb : 0 ≤ b) : 0 ≤ n + b % 128 * 128 ^ (i - 1).toNat ∧ n + b % 128 * 128 ^ (i - 1).toNat < 128 ^ i.toNat := by
  obtain ⟨k, hk⟩ : ∃ k : Nat, i - 1 = (k : Int) := ⟨(i - 1).toNat, by omega⟩
  have ei : i.toNat = k + 1 := by omega
  rw [hk] at hn ⊢
  rw [ei]
  simp only [Int.toNat_natCast] at hn ⊢
  have hp : (0 : Int) < 128 ^ k := Int.pow_pos (by omega)
  have h3 : b % 128 * 128 ^ k ≤ 127 * 128 ^ k := Int.mul_le_mul_of_nonneg_right (by omega) (Int.le_of_lt hp)
  have h4 : 0 ≤ b % 128 * 128 ^ k := Int.mul_nonneg (by omega) (Int.le_of_lt hp)
  rw [Int.pow_succ]
  omega
theorem headG_end (l : List Int) (most i n : Int) (h1 : 1 ≤ i) (h4 : i ≤ 4) (h : i = (l.length : Int)) : headG l most (5 - i.toNat) i.toNat n = (0, 0, none) := by
  obtain ⟨k, hk⟩ : ∃ k, 5 - i.toNat = k + 1 := ⟨4 - i.toNat, by omega⟩
  rw [hk]
  simp only [headG]
  rw [if_pos (by omega)]
theorem headG_step (l : List Int) (most i n : Int) (h1 : 1 ≤ i) (h4 : i ≤ 4) (h : ¬ i = (l.length : Int)) : headG l most (5 - i.toNat) i.toNat n =
    if 128 ≤ rd l i ∧ i = 4 then (0, 0, some (4, 12)) else if 128 ≤ rd l i then headG l most (4 - i.toNat) (i + 1).toNat (n + rd l i % 128 * 128 ^ (i - 1).toNat)
    else if n + rd l i % 128 * 128 ^ (i - 1).toNat > most then (0, 0, some (1, 32)) else (i + 1, n + rd l i % 128 * 128 ^ (i - 1).toNat, none) := by
  obtain ⟨k, hk⟩ : ∃ k, 5 - i.toNat = k + 1 := ⟨4 - i.toNat, by omega⟩
  have hk2 : 4 - i.toNat = k := by omega
  have hi : ((i.toNat : Nat) : Int) = i := by omega
  have hi2 : (i.toNat = 4) = (i = 4) := by rw [eq_iff_iff]; omega
  have hi3 : (i + 1).toNat = i.toNat + 1 := by omega
  have hi4 : (i - 1).toNat = i.toNat - 1 := by omega
  rw [hk, hk2, hi3, hi4]
  simp only [headG, hi, hi2]
  rw [if_neg (by omega)]
set_option maxRecDepth 100000 in
theorem head_kind {w : World} (l : List Int) (most : Int) (ad : Addr) (c : Nat) (b0 : Int) (x0 : w.cell? ad = some (.int .u8 b0)) (k0 : 0 ≤ b0) (k1 : b0 ≤ 255) (hl : 0 < l.length) (hk : b0 / 16 < 1 ∨ b0 / 16 > 14) :
    Calls Tryd.prog 18 #[.slice (some ad) l.length c, .int .i64 most] w fun e w' => HeadAt w w' e (0, 0, some (0, 30)) := by
  have e15 := and15 b0 k0 k1
  have tz : ((l.length : Int) == 0) = false := beq_eq_false_iff_ne.2 (by omega)
  have p0 : (0 : Int) < l.length := by omega
  have ew1 : wrap64 (b0 / 16) = b0 / 16 := by unfold wrap64; omega
  have ew2 : wrap64 (b0 % 16) = b0 % 16 := by unfold wrap64; omega
  go_enter Tryd.func18, Tryd.ntmps18
  go_wp2
  refine wp_scope_jumps 0 (fun _ _ => False) (fun _ _ => 0) rfl ?_ (fun _ _ h => h.elim)
  go_upto_region 3 with fail
  refine start_ (n := 12) (S := fun w' => w'.cell? ad = some (.int .u8 b0)) (ds := []) #[false, false, false, false, false, false, false, false, false, false, false, false] (by kernel_rfl) rfl rfl (x0) (fun hHeld => ?_)
  refine pure_ (i := 0) (N := some 14) (v := ?_) (a' := ?_) #[true, false, false, false, false, false, false, false, false, false, false, false] rfl rfl (by kernel_rfl) (fun _ _ _ h => h) (Or.inl ⟨by rfl, ?_⟩) ?_ ?_
  rotate_left
  · intro w'
    go_simp
    with_reducible rfl
  rotate_left
  · simp only [Act.put, List.setIfInBounds_toArray, List.set_cons_zero, List.set_cons_succ, i64_w, i32_w]
    rfl
  refine pure_ (i := 1) (N := some 15) (v := ?_) (a' := ?_) #[true, true, false, false, false, false, false, false, false, false, false, false] rfl rfl (by kernel_rfl) (fun _ _ _ h => h) (Or.inl ⟨by rfl, ?_⟩) ?_ ?_
  rotate_left
  · intro w'
    go_simp
    with_reducible rfl
  rotate_left
  · simp only [Act.put, List.setIfInBounds_toArray, List.set_cons_zero, List.set_cons_succ, i64_w, i32_w]
    rfl
  refine pure_ (i := 5) (N := some 19) (v := ?_) (a' := ?_) #[true, true, false, false, false, true, false, false, false, false, false, false] rfl rfl (by kernel_rfl) (fun _ _ _ h => h) (Or.inl ⟨by rfl, ?_⟩) ?_ ?_
  rotate_left
  · intro w'
    go_simp
    with_reducible rfl
  rotate_left
  · simp only [Act.put, List.setIfInBounds_toArray, List.set_cons_zero, List.set_cons_succ, i64_w, i32_w]
    rfl
  refine pure_ (i := 6) (N := some 20) (v := ?_) (a' := ?_) #[true, true, false, false, false, true, true, false, false, false, false, false] rfl rfl (by kernel_rfl) (fun _ _ _ h => h) (Or.inl ⟨by rfl, ?_⟩) ?_ ?_
  rotate_left
  · intro w'
    go_simp
    with_reducible rfl
  rotate_left
  · simp only [Act.put, List.setIfInBounds_toArray, List.set_cons_zero, List.set_cons_succ, i64_w, i32_w]
    rfl
  refine take_ (i := 2) (N := some 16) (v := ?_) (a' := ?_) #[true, true, true, false, false, true, true, false, false, false, false, false] rfl rfl (by kernel_rfl) (fun _ _ _ h => h) (Or.inl ⟨by rfl, ?_⟩) hHeld ?_ ?_
  rotate_left
  · intro w' s0
    go_simp
    with_reducible rfl
  rotate_left
  · simp only [Act.put, List.setIfInBounds_toArray, List.set_cons_zero, List.set_cons_succ, i64_w, i32_w]
    rfl
  refine pure_ (i := 3) (N := some 17) (v := ?_) (a' := ?_) #[true, true, true, true, false, true, true, false, false, false, false, false] rfl rfl (by kernel_rfl) (fun _ _ _ h => h) (Or.inl ⟨by rfl, ?_⟩) ?_ ?_
  rotate_left
  · intro w'
    go_simp
    with_reducible rfl
  rotate_left
  · simp only [Act.put, List.setIfInBounds_toArray, List.set_cons_zero, List.set_cons_succ, i64_w, i32_w]
    rfl
  refine pure_ (i := 4) (N := some 18) (v := ?_) (a' := ?_) #[true, true, true, true, true, true, true, false, false, false, false, false] rfl rfl (by kernel_rfl) (fun _ _ _ h => h) (Or.inl ⟨by rfl, ?_⟩) ?_ ?_
  rotate_left
  · intro w'
    go_simp
    with_reducible rfl
  rotate_left
  · simp only [Act.put, List.setIfInBounds_toArray, List.set_cons_zero, List.set_cons_succ, i64_w, i32_w]
    rfl
  refine pure_ (i := 10) (N := some 7) (v := ?_) (a' := ?_) #[true, true, true, true, true, true, true, false, false, false, true, false] rfl rfl (by kernel_rfl) (fun _ _ _ h => h) (Or.inl ⟨by rfl, ?_⟩) ?_ ?_
  rotate_left
  · intro w'
    go_simp
    with_reducible rfl
  rotate_left
  · simp only [Act.put, List.setIfInBounds_toArray, List.set_cons_zero, List.set_cons_succ, i64_w, i32_w]
    rfl
  refine take_ (i := 7) (N := some 21) (v := ?_) (a' := ?_) #[true, true, true, true, true, true, true, true, false, false, true, false] rfl rfl (by kernel_rfl) (fun _ _ _ h => h) (Or.inl ⟨by rfl, ?_⟩) hHeld ?_ ?_
  rotate_left
  · intro w' s0
    go_simp
    with_reducible rfl
  rotate_left
  · simp only [Act.put, List.setIfInBounds_toArray, List.set_cons_zero, List.set_cons_succ, i64_w, i32_w]
    rfl
  refine pure_ (i := 8) (N := some 22) (v := ?_) (a' := ?_) #[true, true, true, true, true, true, true, true, true, false, true, false] rfl rfl (by kernel_rfl) (fun _ _ _ h => h) (Or.inl ⟨by rfl, ?_⟩) ?_ ?_
  rotate_left
  · intro w'
    go_simp
    with_reducible rfl
  rotate_left
  · simp only [Act.put, List.setIfInBounds_toArray, List.set_cons_zero, List.set_cons_succ, i64_w, i32_w]
    rfl
  refine pure_ (i := 9) (N := some 23) (v := ?_) (a' := ?_) #[true, true, true, true, true, true, true, true, true, true, true, false] rfl rfl (by kernel_rfl) (fun _ _ _ h => h) (Or.inl ⟨by rfl, ?_⟩) ?_ ?_
  rotate_left
  · intro w'
    go_simp
    with_reducible rfl
  rotate_left
  · simp only [Act.put, List.setIfInBounds_toArray, List.set_cons_zero, List.set_cons_succ, i64_w, i32_w]
    rfl
  refine pure_ (i := 11) (N := some 8) (v := ?_) (a' := ?_) #[true, true, true, true, true, true, true, true, true, true, true, true] rfl rfl (by kernel_rfl) (fun _ _ _ h => h) (Or.inl ⟨by rfl, ?_⟩) ?_ ?_
  rotate_left
  · intro w'
    go_simp
    with_reducible rfl
  rotate_left
  · simp only [Act.put, List.setIfInBounds_toArray, List.set_cons_zero, List.set_cons_succ, i64_w, i32_w]
    rfl
  refine done_ (by kernel_rfl) ?_
  rcases Int.lt_or_le (b0 / 16) 1 with h1 | h1
  · have d1 : decide (b0 / 16 < 1) = true := decide_eq_true h1
    go_wp2
    simp only [Exit.jump]
    exact bodyPost_ret (results_tmp3 rfl _ _ _) rfl ⟨_, rfl, ⟨_, rfl, heap_alloc_new _ _, Nat.le_refl _⟩, (below_drew1 (Below.refl _ _)).alloc (Nat.le_refl _) _⟩
  · have d1 : decide (b0 / 16 < 1) = false := decide_eq_false (by omega)
    have d2 : decide (14 < b0 / 16) = true := decide_eq_true (by omega)
    go_wp2
    simp only [Exit.jump]
    exact bodyPost_ret (results_tmp3 rfl _ _ _) rfl ⟨_, rfl, ⟨_, rfl, heap_alloc_new _ _, Nat.le_refl _⟩, (below_drew1 (Below.refl _ _)).alloc (Nat.le_refl _) _⟩
set_option maxRecDepth 100000 in
theorem head_flags {w : World} (hg : Gl w) (l : List Int) (most : Int) (ad : Addr) (c : Nat) (b0 : Int) (x0 : w.cell? ad = some (.int .u8 b0)) (k0 : 0 ≤ b0) (k1 : b0 ≤ 255) (hl : 0 < l.length) (hk : ¬ (b0 / 16 < 1 ∨ b0 / 16 > 14)) (hm : mayB (b0 / 16) (b0 % 16) = false) :
    Calls Tryd.prog 18 #[.slice (some ad) l.length c, .int .i64 most] w fun e w' => HeadAt w w' e (0, 0, some (0, 31)) := by
  have e15 := and15 b0 k0 k1
  have tz : ((l.length : Int) == 0) = false := beq_eq_false_iff_ne.2 (by omega)
  have p0 : (0 : Int) < l.length := by omega
  have ew1 : wrap64 (b0 / 16) = b0 / 16 := by unfold wrap64; omega
  have ew2 : wrap64 (b0 % 16) = b0 % 16 := by unfold wrap64; omega
  have d1 : decide (b0 / 16 < 1) = false := decide_eq_false (by omega)
  have d2 : decide (14 < b0 / 16) = false := decide_eq_false (by omega)
  have HG := Aside0.mk (hg.below (w1 := w.drew) (b := w.heap.size) (below_drew1 (Below.refl _ _)) hg.sz (Nat.le_refl _))
  have HM := Aside0.mk hm
  clear hg hm
  go_enter Tryd.func18, Tryd.ntmps18
  go_wp2
  refine wp_scope_jumps 0 (fun _ _ => False) (fun _ _ => 0) rfl ?_ (fun _ _ h => h.elim)
  go_upto_region 3 with fail
  refine start_ (n := 12) (S := fun w' => w'.cell? ad = some (.int .u8 b0)) (ds := []) #[false, false, false, false, false, false, false, false, false, false, false, false] (by kernel_rfl) rfl rfl (x0) (fun hHeld => ?_)
  refine pure_ (i := 0) (N := some 14) (v := ?_) (a' := ?_) #[true, false, false, false, false, false, false, false, false, false, false, false] rfl rfl (by kernel_rfl) (fun _ _ _ h => h) (Or.inl ⟨by rfl, ?_⟩) ?_ ?_
  rotate_left
  · intro w'
    go_simp
    with_reducible rfl
  rotate_left
  · simp only [Act.put, List.setIfInBounds_toArray, List.set_cons_zero, List.set_cons_succ, i64_w, i32_w]
    rfl
  refine pure_ (i := 1) (N := some 15) (v := ?_) (a' := ?_) #[true, true, false, false, false, false, false, false, false, false, false, false] rfl rfl (by kernel_rfl) (fun _ _ _ h => h) (Or.inl ⟨by rfl, ?_⟩) ?_ ?_
  rotate_left
  · intro w'
    go_simp
    with_reducible rfl
  rotate_left
  · simp only [Act.put, List.setIfInBounds_toArray, List.set_cons_zero, List.set_cons_succ, i64_w, i32_w]
    rfl
  refine pure_ (i := 5) (N := some 19) (v := ?_) (a' := ?_) #[true, true, false, false, false, true, false, false, false, false, false, false] rfl rfl (by kernel_rfl) (fun _ _ _ h => h) (Or.inl ⟨by rfl, ?_⟩) ?_ ?_
  rotate_left
  · intro w'
    go_simp
    with_reducible rfl
  rotate_left
  · simp only [Act.put, List.setIfInBounds_toArray, List.set_cons_zero, List.set_cons_succ, i64_w, i32_w]
    rfl
  refine pure_ (i := 6) (N := some 20) (v := ?_) (a' := ?_) #[true, true, false, false, false, true, true, false, false, false, false, false] rfl rfl (by kernel_rfl) (fun _ _ _ h => h) (Or.inl ⟨by rfl, ?_⟩) ?_ ?_
  rotate_left
  · intro w'
    go_simp
    with_reducible rfl
  rotate_left
  · simp only [Act.put, List.setIfInBounds_toArray, List.set_cons_zero, List.set_cons_succ, i64_w, i32_w]
    rfl
  refine take_ (i := 2) (N := some 16) (v := ?_) (a' := ?_) #[true, true, true, false, false, true, true, false, false, false, false, false] rfl rfl (by kernel_rfl) (fun _ _ _ h => h) (Or.inl ⟨by rfl, ?_⟩) hHeld ?_ ?_
  rotate_left
  · intro w' s0
    go_simp
    with_reducible rfl
  rotate_left
  · simp only [Act.put, List.setIfInBounds_toArray, List.set_cons_zero, List.set_cons_succ, i64_w, i32_w]
    rfl
  refine pure_ (i := 3) (N := some 17) (v := ?_) (a' := ?_) #[true, true, true, true, false, true, true, false, false, false, false, false] rfl rfl (by kernel_rfl) (fun _ _ _ h => h) (Or.inl ⟨by rfl, ?_⟩) ?_ ?_
  rotate_left
  · intro w'
    go_simp
    with_reducible rfl
  rotate_left
  · simp only [Act.put, List.setIfInBounds_toArray, List.set_cons_zero, List.set_cons_succ, i64_w, i32_w]
    rfl
  refine pure_ (i := 4) (N := some 18) (v := ?_) (a' := ?_) #[true, true, true, true, true, true, true, false, false, false, false, false] rfl rfl (by kernel_rfl) (fun _ _ _ h => h) (Or.inl ⟨by rfl, ?_⟩) ?_ ?_
  rotate_left
  · intro w'
    go_simp
    with_reducible rfl
  rotate_left
  · simp only [Act.put, List.setIfInBounds_toArray, List.set_cons_zero, List.set_cons_succ, i64_w, i32_w]
    rfl
  refine pure_ (i := 10) (N := some 7) (v := ?_) (a' := ?_) #[true, true, true, true, true, true, true, false, false, false, true, false] rfl rfl (by kernel_rfl) (fun _ _ _ h => h) (Or.inl ⟨by rfl, ?_⟩) ?_ ?_
  rotate_left
  · intro w'
    go_simp
    with_reducible rfl
  rotate_left
  · simp only [Act.put, List.setIfInBounds_toArray, List.set_cons_zero, List.set_cons_succ, i64_w, i32_w]
    rfl
  refine take_ (i := 7) (N := some 21) (v := ?_) (a' := ?_) #[true, true, true, true, true, true, true, true, false, false, true, false] rfl rfl (by kernel_rfl) (fun _ _ _ h => h) (Or.inl ⟨by rfl, ?_⟩) hHeld ?_ ?_
  rotate_left
  · intro w' s0
    go_simp
    with_reducible rfl
  rotate_left
  · simp only [Act.put, List.setIfInBounds_toArray, List.set_cons_zero, List.set_cons_succ, i64_w, i32_w]
    rfl
  refine pure_ (i := 8) (N := some 22) (v := ?_) (a' := ?_) #[true, true, true, true, true, true, true, true, true, false, true, false] rfl rfl (by kernel_rfl) (fun _ _ _ h => h) (Or.inl ⟨by rfl, ?_⟩) ?_ ?_
  rotate_left
  · intro w'
    go_simp
    with_reducible rfl
  rotate_left
  · simp only [Act.put, List.setIfInBounds_toArray, List.set_cons_zero, List.set_cons_succ, i64_w, i32_w]
    rfl
  refine pure_ (i := 9) (N := some 23) (v := ?_) (a' := ?_) #[true, true, true, true, true, true, true, true, true, true, true, false] rfl rfl (by kernel_rfl) (fun _ _ _ h => h) (Or.inl ⟨by rfl, ?_⟩) ?_ ?_
  rotate_left
  · intro w'
    go_simp
    with_reducible rfl
  rotate_left
  · simp only [Act.put, List.setIfInBounds_toArray, List.set_cons_zero, List.set_cons_succ, i64_w, i32_w]
    rfl
  refine pure_ (i := 11) (N := some 8) (v := ?_) (a' := ?_) #[true, true, true, true, true, true, true, true, true, true, true, true] rfl rfl (by kernel_rfl) (fun _ _ _ h => h) (Or.inl ⟨by rfl, ?_⟩) ?_ ?_
  rotate_left
  · intro w'
    go_simp
    with_reducible rfl
  rotate_left
  · simp only [Act.put, List.setIfInBounds_toArray, List.set_cons_zero, List.set_cons_succ, i64_w, i32_w]
    rfl
  refine done_ (by kernel_rfl) ?_
  go_wp2_with (go_at_call 27; refine (may_any HG.out (b0 / 16) (b0 % 16) (by omega) (by omega) (by omega) (by omega)).mono ?_; rintro e w1 ⟨rfl, rfl⟩; rw [HM.out])
  simp only [Exit.jump]
  exact bodyPost_ret (results_tmp3 rfl _ _ _) rfl ⟨_, rfl, ⟨_, rfl, heap_alloc_new _ _, Nat.le_refl _⟩, (below_drew1 (Below.refl _ _)).alloc (Nat.le_refl _) _⟩
def headJ (w : World) (l : List Int) (most : Int) (ad : Addr) (c : Nat) (a' : Act) (w' : World) : Prop :=
  w' = w.drew ∧ ∃ (i n : Int) (u2 u3 u7 u8 u11 u12 u13 u14 u15 u16 u17 u18 u19 u20 u21 u22 u23 u24 u25 u26 u27 u28 u29 u30 u31 u32 u33 u34 u35 u36 u37 u38 u39 u40 u41 u42 u43 u44 u45 u46 u47 u48 u49 u50 u51 u52 u53 u54 u55 u56 u57 u58 u59 u60 u61 u62 u63 u64 u65 u66 u67 u68 u69 u70 u71 u72 u73 u74 u75 u76 u77 u78 u79 u80 : Value), a' = { tmps := #[.slice (some ad) l.length c, .int .i64 most, u2, u3, .int .i64 0, .int .i64 0, .pointer none, u7, u8, .int .i64 i, .int .i64 n, u11, u12, u13, u14, u15, u16, u17, u18, u19, u20, u21, u22, u23, u24, u25, u26, u27, u28, u29, u30, u31, u32, u33, u34, u35, u36, u37, u38, u39, u40, u41, u42, u43, u44, u45, u46, u47, u48, u49, u50, u51, u52, u53, u54, u55, u56, u57, u58, u59, u60, u61, u62, u63, u64, u65, u66, u67, u68, u69, u70, u71, u72, u73, u74, u75, u76, u77, u78, u79, u80], defers := [] } ∧ 1 ≤ i ∧ i ≤ 4 ∧ i ≤ (l.length : Int) ∧ 0 ≤ n ∧ n < 128 ^ (i - 1).toNat ∧ headP l most = headG l most (5 - i.toNat) i.toNat n
def headM (a' : Act) (_ : World) : Nat := (5 - (match a'.tmps.getD 9 undef with | .int _ q => q | _ => 0)).toNat
set_option maxRecDepth 100000 in
set_option maxHeartbeats 4000000 in
theorem head_go {w : World} (hg : Gl w) (l : List Int) (most : Int) (ad : Addr) (c : Nat) (b0 : Int) (x0 : w.cell? ad = some (.int .u8 b0)) (k0 : 0 ≤ b0) (k1 : b0 ≤ 255) (hl : 0 < l.length) (hk : ¬ (b0 / 16 < 1 ∨ b0 / 16 > 14)) (hm : mayB (b0 / 16) (b0 % 16) = true)
    (hr : (Kd.int .u8).C w (some ad) l.length l) (hb : ∀ x ∈ l, 0 ≤ x ∧ x ≤ 255) (he : headP l most = headG l most 4 1 0) :
    Calls Tryd.prog 18 #[.slice (some ad) l.length c, .int .i64 most] w fun e w' => HeadAt w w' e (headP l most) := by
  have e15 := and15 b0 k0 k1
  have tz : ((l.length : Int) == 0) = false := beq_eq_false_iff_ne.2 (by omega)
  have p0 : (0 : Int) < l.length := by omega
  have ew1 : wrap64 (b0 / 16) = b0 / 16 := by unfold wrap64; omega
  have ew2 : wrap64 (b0 % 16) = b0 % 16 := by unfold wrap64; omega
  have d1 : decide (b0 / 16 < 1) = false := decide_eq_false (by omega)
  have d2 : decide (14 < b0 / 16) = false := decide_eq_false (by omega)
  have HG := Aside0.mk (hg.below (w1 := w.drew) (b := w.heap.size) (below_drew1 (Below.refl _ _)) hg.sz (Nat.le_refl _))
  have HM := Aside0.mk hm
  have HR := Aside0.mk hr
  have HB := Aside0.mk hb
  obtain ⟨i, hi0⟩ : ∃ i : Int, i = 1 := ⟨_, rfl⟩
  obtain ⟨n, hn0⟩ : ∃ n : Int, n = 0 := ⟨_, rfl⟩
  have HI := Aside0.mk hi0
  have HN0 := Aside0.mk hn0
  have HE0 := Aside0.mk he
  clear hg hm hr hb he hi0 hn0
  go_enter Tryd.func18, Tryd.ntmps18
  go_wp2
  refine wp_scope_jumps 0 (headJ w l most ad c)
    headM rfl ?_ ?_
  · go_upto_region 3 with fail
    refine start_ (n := 12) (S := fun w' => w'.cell? ad = some (.int .u8 b0)) (ds := []) #[false, false, false, false, false, false, false, false, false, false, false, false] (by kernel_rfl) rfl rfl (x0) (fun hHeld => ?_)
    refine pure_ (i := 0) (N := some 14) (v := ?_) (a' := ?_) #[true, false, false, false, false, false, false, false, false, false, false, false] rfl rfl (by kernel_rfl) (fun _ _ _ h => h) (Or.inl ⟨by rfl, ?_⟩) ?_ ?_
    rotate_left
    · intro w'
      go_simp
      with_reducible rfl
    rotate_left
    · simp only [Act.put, List.setIfInBounds_toArray, List.set_cons_zero, List.set_cons_succ, i64_w, i32_w]
      rfl
    refine pure_ (i := 1) (N := some 15) (v := ?_) (a' := ?_) #[true, true, false, false, false, false, false, false, false, false, false, false] rfl rfl (by kernel_rfl) (fun _ _ _ h => h) (Or.inl ⟨by rfl, ?_⟩) ?_ ?_
    rotate_left
    · intro w'
      go_simp
      with_reducible rfl
    rotate_left
    · simp only [Act.put, List.setIfInBounds_toArray, List.set_cons_zero, List.set_cons_succ, i64_w, i32_w]
      rfl
    refine pure_ (i := 5) (N := some 19) (v := ?_) (a' := ?_) #[true, true, false, false, false, true, false, false, false, false, false, false] rfl rfl (by kernel_rfl) (fun _ _ _ h => h) (Or.inl ⟨by rfl, ?_⟩) ?_ ?_
    rotate_left
    · intro w'
      go_simp
      with_reducible rfl
    rotate_left
    · simp only [Act.put, List.setIfInBounds_toArray, List.set_cons_zero, List.set_cons_succ, i64_w, i32_w]
      rfl
    refine pure_ (i := 6) (N := some 20) (v := ?_) (a' := ?_) #[true, true, false, false, false, true, true, false, false, false, false, false] rfl rfl (by kernel_rfl) (fun _ _ _ h => h) (Or.inl ⟨by rfl, ?_⟩) ?_ ?_
    rotate_left
    · intro w'
      go_simp
      with_reducible rfl
    rotate_left
    · simp only [Act.put, List.setIfInBounds_toArray, List.set_cons_zero, List.set_cons_succ, i64_w, i32_w]
      rfl
    refine take_ (i := 2) (N := some 16) (v := ?_) (a' := ?_) #[true, true, true, false, false, true, true, false, false, false, false, false] rfl rfl (by kernel_rfl) (fun _ _ _ h => h) (Or.inl ⟨by rfl, ?_⟩) hHeld ?_ ?_
    rotate_left
    · intro w' s0
      go_simp
      with_reducible rfl
    rotate_left
    · simp only [Act.put, List.setIfInBounds_toArray, List.set_cons_zero, List.set_cons_succ, i64_w, i32_w]
      rfl
    refine pure_ (i := 3) (N := some 17) (v := ?_) (a' := ?_) #[true, true, true, true, false, true, true, false, false, false, false, false] rfl rfl (by kernel_rfl) (fun _ _ _ h => h) (Or.inl ⟨by rfl, ?_⟩) ?_ ?_
    rotate_left
    · intro w'
      go_simp
      with_reducible rfl
    rotate_left
    · simp only [Act.put, List.setIfInBounds_toArray, List.set_cons_zero, List.set_cons_succ, i64_w, i32_w]
      rfl
    refine pure_ (i := 4) (N := some 18) (v := ?_) (a' := ?_) #[true, true, true, true, true, true, true, false, false, false, false, false] rfl rfl (by kernel_rfl) (fun _ _ _ h => h) (Or.inl ⟨by rfl, ?_⟩) ?_ ?_
    rotate_left
    · intro w'
      go_simp
      with_reducible rfl
    rotate_left
    · simp only [Act.put, List.setIfInBounds_toArray, List.set_cons_zero, List.set_cons_succ, i64_w, i32_w]
      rfl
    refine pure_ (i := 10) (N := some 7) (v := ?_) (a' := ?_) #[true, true, true, true, true, true, true, false, false, false, true, false] rfl rfl (by kernel_rfl) (fun _ _ _ h => h) (Or.inl ⟨by rfl, ?_⟩) ?_ ?_
    rotate_left
    · intro w'
      go_simp
      with_reducible rfl
    rotate_left
    · simp only [Act.put, List.setIfInBounds_toArray, List.set_cons_zero, List.set_cons_succ, i64_w, i32_w]
      rfl
    refine take_ (i := 7) (N := some 21) (v := ?_) (a' := ?_) #[true, true, true, true, true, true, true, true, false, false, true, false] rfl rfl (by kernel_rfl) (fun _ _ _ h => h) (Or.inl ⟨by rfl, ?_⟩) hHeld ?_ ?_
    rotate_left
    · intro w' s0
      go_simp
      with_reducible rfl
    rotate_left
    · simp only [Act.put, List.setIfInBounds_toArray, List.set_cons_zero, List.set_cons_succ, i64_w, i32_w]
      rfl
    refine pure_ (i := 8) (N := some 22) (v := ?_) (a' := ?_) #[true, true, true, true, true, true, true, true, true, false, true, false] rfl rfl (by kernel_rfl) (fun _ _ _ h => h) (Or.inl ⟨by rfl, ?_⟩) ?_ ?_
    rotate_left
    · intro w'
      go_simp
      with_reducible rfl
    rotate_left
    · simp only [Act.put, List.setIfInBounds_toArray, List.set_cons_zero, List.set_cons_succ, i64_w, i32_w]
      rfl
    refine pure_ (i := 9) (N := some 23) (v := ?_) (a' := ?_) #[true, true, true, true, true, true, true, true, true, true, true, false] rfl rfl (by kernel_rfl) (fun _ _ _ h => h) (Or.inl ⟨by rfl, ?_⟩) ?_ ?_
    rotate_left
    · intro w'
      go_simp
      with_reducible rfl
    rotate_left
    · simp only [Act.put, List.setIfInBounds_toArray, List.set_cons_zero, List.set_cons_succ, i64_w, i32_w]
      rfl
    refine pure_ (i := 11) (N := some 8) (v := ?_) (a' := ?_) #[true, true, true, true, true, true, true, true, true, true, true, true] rfl rfl (by kernel_rfl) (fun _ _ _ h => h) (Or.inl ⟨by rfl, ?_⟩) ?_ ?_
    rotate_left
    · intro w'
      go_simp
      with_reducible rfl
    rotate_left
    · simp only [Act.put, List.setIfInBounds_toArray, List.set_cons_zero, List.set_cons_succ, i64_w, i32_w]
      rfl
    refine done_ (by kernel_rfl) ?_
    go_upto_region 4 with fail
    go_cut [9, 10] (fun s9 s10 wx => s9 = .int .i64 i ∧ s10 = .int .i64 n ∧ wx = w.drew)
    case first =>
      go_wp2
      go_meet
      case rel => exact ⟨by rw [HI.out], by rw [HN0.out], rfl⟩
    case rest =>
      obtain ⟨rfl, rfl, rfl⟩ := hcut
      have hi1 : 1 ≤ i := by rw [HI.out]; omega
      have hi4 : i ≤ 4 := by rw [HI.out]; omega
      have hil : i ≤ (l.length : Int) := by rw [HI.out]; omega
      have hn0 : 0 ≤ n := by rw [HN0.out]; omega
      have hn1 : n < 128 ^ (i - 1).toNat := by rw [HN0.out, HI.out]; decide
      have HE := Aside0.mk (show headP l most = headG l most (5 - i.toNat) i.toNat n by rw [HE0.out, HI.out, HN0.out]; rfl)
      clear HI HN0 HE0
      go_upto_region 9 with (go_at_call 27; refine (may_any HG.out (b0 / 16) (b0 % 16) (by omega) (by omega) (by omega) (by omega)).mono ?_; rintro e w1 ⟨rfl, rfl⟩; rw [HM.out])
      go_step3
      by_cases hend : i = (l.length : Int)
      · have tA : (i == (l.length : Int)) = true := beq_iff_eq.2 hend
        have HN := Aside0.mk (show headP l most = (0, 0, none) by rw [HE.out]; exact headG_end l most i n hi1 hi4 hend)
        clear hend
        go_wp2
        simp only [Exit.jump]
        exact bodyPost_ret (results_tmp3 rfl _ _ _) rfl (by rw [HN.out]; exact ⟨_, rfl, rfl, below_drew1 (Below.refl _ _)⟩)
      · have tA : (i == (l.length : Int)) = false := beq_eq_false_iff_ne.2 hend
        have q0 : (0 : Int) ≤ i := by omega
        have q1 : i < (l.length : Int) := by omega
        obtain ⟨ad2, hA2, hx2⟩ := Kd.at_int HR.out i q0 q1
        obtain rfl : ad = ad2 := Option.some.inj hA2
        have hb2 := rd_range l HB.out i
        have HN := headG_step l most i n hi1 hi4 hend
        rw [← HE.out] at HN
        generalize rd l i = b at hb2 hx2 HN
        obtain ⟨hb0, hb1⟩ := hb2
        have hx2 : w.cell? (ad.add i.toNat) = some (.int .u8 b) := hx2
        have ea := and127 b hb0 hb1
        have ew3 : wrap64 (b % 128) = b % 128 := by unfold wrap64; omega
        have ew4 : wrap64 (i - 1) = i - 1 := by unfold wrap64; omega
        have ew5 : wrap64 (7 * (i - 1)) = 7 * (i - 1) := by unfold wrap64; omega
        have q2 : (0 : Int) ≤ 7 * (i - 1) := by omega
        obtain ⟨n2, hn2⟩ : ∃ n2, n2 = n + b % 128 * 128 ^ (i - 1).toNat := ⟨_, rfl⟩
        have eo : bits .or .i64 n (wrap64 (b % 128 * 2 ^ (7 * (i - 1)).toNat)) = n2 := by rw [hn2]; exact step_wrap i n b hi1 hi4 hn0 hn1 hb0
        have hn20 : 0 ≤ n2 ∧ n2 < 128 ^ i.toNat := by rw [hn2]; exact step_range i n b hi1 hn0 hn1 hb0
        have HR2 := Aside0.mk hn20
        rw [← hn2] at HN
        have ew6 : wrap64 (i + 1) = i + 1 := by unfold wrap64; omega
        have ew7 : wrap64 (i + 1 - 1) = i := by unfold wrap64; omega
        have ew8 : i + 1 - 1 = i := by omega
        clear hn2 hend hn20 hn1
        by_cases hc : 128 ≤ b
        · have tb : decide (b ≥ 128) = true := decide_eq_true hc
          by_cases h4 : i = 4
          · have HF := Aside0.mk (show headP l most = (0, 0, some (i, 12)) by rw [HN, if_pos ⟨hc, h4⟩, h4])
            have t4 : (i == 4) = true := beq_iff_eq.2 h4
            clear HN h4 hc
            go_wp2
            simp only [Exit.jump]
            exact bodyPost_ret (results_tmp3 rfl _ _ _) rfl (by rw [HF.out]; exact ⟨_, rfl, ⟨_, rfl, heap_alloc_new _ _, Nat.le_refl _⟩, (below_drew1 (Below.refl _ _)).alloc (Nat.le_refl _) _⟩)
          · have t4 : (i == 4) = false := beq_eq_false_iff_ne.2 h4
            have e5 : (5 - (i + 1).toNat) = 4 - i.toNat := by omega
            have HE2 := Aside0.mk (show headP l most = headG l most (5 - (i + 1).toNat) (i + 1).toNat n2 by rw [HN, if_neg (fun h => h4 h.2), if_pos hc, e5])
            have HL := Aside0.mk (show 1 ≤ i + 1 ∧ i + 1 ≤ 4 ∧ i + 1 ≤ (l.length : Int) by omega)
            have HM4 := Aside0.mk (show (5 - (i + 1)).toNat < (5 - i).toNat by omega)
            have HR3 := Aside0.mk (show 0 ≤ n2 ∧ n2 < 128 ^ (i + 1 - 1).toNat by rw [ew8]; exact HR2.out)
            clear HN h4 hc e5 HR2
            go_wp2
            go_step3
            exact ⟨rfl, rfl, i + 1, n2, _, _, _, _, _, _, _, _, _, _, _, _, _, _, _, _, _, _, _, _, _, _, _, _, _, _, _, _, _, _, _, _, _, _, _, _, _, _, _, _, _, _, _, _, _, _, _, _, _, _, _, _, _, _, _, _, _, _, _, _, _, _, _, _, _, _, _, _, _, _, _, _, _, _, rfl, HL.out.1, HL.out.2.1, HL.out.2.2, HR3.out.1, HR3.out.2, HE2.out⟩
        · have tb : decide (b ≥ 128) = false := decide_eq_false hc
          by_cases hm : n2 > most
          · have tm : decide (n2 > most) = true := decide_eq_true hm
            have HF := Aside0.mk (show headP l most = (0, 0, some (1, 32)) by rw [HN, if_neg (fun h => hc h.1), if_neg hc, if_pos hm])
            clear HN hc hm
            go_wp2
            simp only [Exit.jump]
            exact bodyPost_ret (results_tmp3 rfl _ _ _) rfl (by rw [HF.out]; exact ⟨_, rfl, ⟨_, rfl, heap_alloc_new _ _, Nat.le_refl _⟩, (below_drew1 (Below.refl _ _)).alloc (Nat.le_refl _) _⟩)
          · have tm : decide (n2 > most) = false := decide_eq_false hm
            have HF := Aside0.mk (show headP l most = (i + 1, n2, none) by rw [HN, if_neg (fun h => hc h.1), if_neg hc, if_neg hm])
            clear HN hc hm
            go_wp2
            simp only [Exit.jump]
            exact bodyPost_ret (results_tmp3 rfl _ _ _) rfl (by rw [HF.out]; exact ⟨_, rfl, rfl, below_drew1 (Below.refl _ _)⟩)
  · rintro a' w' ⟨rfl, i, n, u2, u3, u7, u8, u11, u12, u13, u14, u15, u16, u17, u18, u19, u20, u21, u22, u23, u24, u25, u26, u27, u28, u29, u30, u31, u32, u33, u34, u35, u36, u37, u38, u39, u40, u41, u42, u43, u44, u45, u46, u47, u48, u49, u50, u51, u52, u53, u54, u55, u56, u57, u58, u59, u60, u61, u62, u63, u64, u65, u66, u67, u68, u69, u70, u71, u72, u73, u74, u75, u76, u77, u78, u79, u80, rfl, hi1, hi4, hil, hn0, hn1, he⟩
    have HE := Aside0.mk he
    clear he HI HN0 HE0 HG
    by_cases hend : i = (l.length : Int)
    · have tA : (i == (l.length : Int)) = true := beq_iff_eq.2 hend
      have HN := Aside0.mk (show headP l most = (0, 0, none) by rw [HE.out]; exact headG_end l most i n hi1 hi4 hend)
      clear hend
      go_wp2
      simp only [Exit.jump]
      exact bodyPost_ret (results_tmp3 rfl _ _ _) rfl (by rw [HN.out]; exact ⟨_, rfl, rfl, below_drew1 (Below.refl _ _)⟩)
    · have tA : (i == (l.length : Int)) = false := beq_eq_false_iff_ne.2 hend
      have q0 : (0 : Int) ≤ i := by omega
      have q1 : i < (l.length : Int) := by omega
      obtain ⟨ad2, hA2, hx2⟩ := Kd.at_int HR.out i q0 q1
      obtain rfl : ad = ad2 := Option.some.inj hA2
      have hb2 := rd_range l HB.out i
      have HN := headG_step l most i n hi1 hi4 hend
      rw [← HE.out] at HN
      generalize rd l i = b at hb2 hx2 HN
      obtain ⟨hb0, hb1⟩ := hb2
      have hx2 : w.cell? (ad.add i.toNat) = some (.int .u8 b) := hx2
      have ea := and127 b hb0 hb1
      have ew3 : wrap64 (b % 128) = b % 128 := by unfold wrap64; omega
      have ew4 : wrap64 (i - 1) = i - 1 := by unfold wrap64; omega
      have ew5 : wrap64 (7 * (i - 1)) = 7 * (i - 1) := by unfold wrap64; omega
      have q2 : (0 : Int) ≤ 7 * (i - 1) := by omega
      obtain ⟨n2, hn2⟩ : ∃ n2, n2 = n + b % 128 * 128 ^ (i - 1).toNat := ⟨_, rfl⟩
      have eo : bits .or .i64 n (wrap64 (b % 128 * 2 ^ (7 * (i - 1)).toNat)) = n2 := by rw [hn2]; exact step_wrap i n b hi1 hi4 hn0 hn1 hb0
      have hn20 : 0 ≤ n2 ∧ n2 < 128 ^ i.toNat := by rw [hn2]; exact step_range i n b hi1 hn0 hn1 hb0
      have HR2 := Aside0.mk hn20
      rw [← hn2] at HN
      have ew6 : wrap64 (i + 1) = i + 1 := by unfold wrap64; omega
      have ew7 : wrap64 (i + 1 - 1) = i := by unfold wrap64; omega
      have ew8 : i + 1 - 1 = i := by omega
      clear hn2 hend hn20 hn1
      by_cases hc : 128 ≤ b
      · have tb : decide (b ≥ 128) = true := decide_eq_true hc
        by_cases h4 : i = 4
        · have HF := Aside0.mk (show headP l most = (0, 0, some (i, 12)) by rw [HN, if_pos ⟨hc, h4⟩, h4])
          have t4 : (i == 4) = true := beq_iff_eq.2 h4
          clear HN h4 hc
          go_wp2
          simp only [Exit.jump]
          exact bodyPost_ret (results_tmp3 rfl _ _ _) rfl (by rw [HF.out]; exact ⟨_, rfl, ⟨_, rfl, heap_alloc_new _ _, Nat.le_refl _⟩, (below_drew1 (Below.refl _ _)).alloc (Nat.le_refl _) _⟩)
        · have t4 : (i == 4) = false := beq_eq_false_iff_ne.2 h4
          have e5 : (5 - (i + 1).toNat) = 4 - i.toNat := by omega
          have HE2 := Aside0.mk (show headP l most = headG l most (5 - (i + 1).toNat) (i + 1).toNat n2 by rw [HN, if_neg (fun h => h4 h.2), if_pos hc, e5])
          have HL := Aside0.mk (show 1 ≤ i + 1 ∧ i + 1 ≤ 4 ∧ i + 1 ≤ (l.length : Int) by omega)
          have HM4 := Aside0.mk (show (5 - (i + 1)).toNat < (5 - i).toNat by omega)
          have HR3 := Aside0.mk (show 0 ≤ n2 ∧ n2 < 128 ^ (i + 1 - 1).toNat by rw [ew8]; exact HR2.out)
          clear HN h4 hc e5 HR2
          go_wp2
          go_step3
          exact ⟨rfl, ⟨rfl, i + 1, n2, _, _, _, _, _, _, _, _, _, _, _, _, _, _, _, _, _, _, _, _, _, _, _, _, _, _, _, _, _, _, _, _, _, _, _, _, _, _, _, _, _, _, _, _, _, _, _, _, _, _, _, _, _, _, _, _, _, _, _, _, _, _, _, _, _, _, _, _, _, _, _, _, _, _, rfl, HL.out.1, HL.out.2.1, HL.out.2.2, HR3.out.1, HR3.out.2, HE2.out⟩, HM4.out⟩
      · have tb : decide (b ≥ 128) = false := decide_eq_false hc
        by_cases hm : n2 > most
        · have tm : decide (n2 > most) = true := decide_eq_true hm
          have HF := Aside0.mk (show headP l most = (0, 0, some (1, 32)) by rw [HN, if_neg (fun h => hc h.1), if_neg hc, if_pos hm])
          clear HN hc hm
          go_wp2
          simp only [Exit.jump]
          exact bodyPost_ret (results_tmp3 rfl _ _ _) rfl (by rw [HF.out]; exact ⟨_, rfl, ⟨_, rfl, heap_alloc_new _ _, Nat.le_refl _⟩, (below_drew1 (Below.refl _ _)).alloc (Nat.le_refl _) _⟩)
        · have tm : decide (n2 > most) = false := decide_eq_false hm
          have HF := Aside0.mk (show headP l most = (i + 1, n2, none) by rw [HN, if_neg (fun h => hc h.1), if_neg hc, if_neg hm])
          clear HN hc hm
          go_wp2
          simp only [Exit.jump]
          exact bodyPost_ret (results_tmp3 rfl _ _ _) rfl (by rw [HF.out]; exact ⟨_, rfl, rfl, below_drew1 (Below.refl _ _)⟩)
theorem head_any {w : World} (hg : Gl w) (l : List Int) (most : Int) (A : Option Addr) (c : Nat) (hr : (Kd.int .u8).C w A l.length l) (hb : ∀ x ∈ l, 0 ≤ x ∧ x ≤ 255) :
    Calls Tryd.prog 18 #[.slice A l.length c, .int .i64 most] w fun e w' => HeadAt w w' e (headP l most) := by
  rcases Nat.eq_zero_or_pos l.length with h0 | hl
  · rw [h0]; unfold headP; rw [if_pos h0]; exact head_none most A c w
  · obtain ⟨ad, rfl, hx⟩ := Kd.at_int hr 0 (by decide) (by omega)
    have hr0 := rd_range l hb 0
    have x0 : w.cell? ad = some (.int .u8 (rd l 0)) := by
      have e : ad.add ((0 : Int).toNat) = ad := by unfold Addr.add; split <;> simp_all
      rw [e] at hx; exact hx
    have eh : headP l most = if rd l 0 / 16 < 1 ∨ rd l 0 / 16 > 14 then (0, 0, some (0, 30)) else if mayB (rd l 0 / 16) (rd l 0 % 16) = true then headG l most 4 1 0 else (0, 0, some (0, 31)) := by unfold headP; rw [if_neg (by omega)]
    by_cases hk : rd l 0 / 16 < 1 ∨ rd l 0 / 16 > 14
    · rw [eh, if_pos hk]; exact head_kind l most ad c _ x0 hr0.1 hr0.2 hl hk
    · by_cases hm : mayB (rd l 0 / 16) (rd l 0 % 16) = true
      · exact head_go hg l most ad c _ x0 hr0.1 hr0.2 hl hk hm hr hb (by rw [eh, if_neg hk, if_pos hm])
      · rw [eh, if_neg hk, if_neg hm]; exact head_flags hg l most ad c _ x0 hr0.1 hr0.2 hl hk (by simpa using hm)
end Go.Proofs.YthlbcgaegaoanaaDoor.Cr

namespace Go.Proofs.YthlbcgaegaoanaaDoor.Cr
open Go Go.RowKit Go.Proofs.YthlbcgaegaoanaaDoorW.PrintWords Go.Proofs.YthlbcgaegaoanaaDoorW.PrintLast Go.Proofs.YthlbcgaegaoanaaDoorW.PrintMore Go.Proofs.YthlbcgaegaoanaaDoor.Kinds Go.Proofs.YthlbcgaegaoanaaDoor.Utf Go.Proofs.YthlbcgaegaoanaaDoor.Chk Go.Proofs.YthlbcgaegaoanaaDoor.Rdr
set_option linter.unusedVariables false
set_option linter.unusedSimpArgs false
def textB (s : ByteArray) : Bool := (chk s).2 == 0
theorem ptext_any (s : ByteArray) (w : World) :
    Calls Tryd.prog 39 #[.string s] w fun e w' => e = .returned (.bool (textB s)) ∧ Below w.heap.size w w' := by
  go_enter Tryd.func39, Tryd.ntmps39
  go_wp2_with (go_at_call 53; refine (check_any s _).mono ?_; rintro e w1 ⟨rfl, hB⟩; have HB := Aside0.mk hB; clear hB)
  go_ret
  exact ⟨rfl, HB.out⟩
def qosB (q : Int) : Bool := decide (q ≥ 0) && decide (q ≤ 2)
theorem isQoS_any (q : Int) (w : World) :
    Calls Tryd.prog 63 #[.int .i64 q] w fun e w' => e = .returned (.bool (qosB q)) ∧ w = w' := by
  go_enter Tryd.func63, Tryd.ntmps63
  go_wp2
  all_goals
    go_ret
    exact ⟨by simp_all [qosB] <;> (intros; omega), rfl⟩
def isKindB (k : Int) : Bool := decide (k ≥ 1) && decide (k ≤ 14)
theorem isKind_all (k : Int) (w : World) :
    Calls Tryd.prog 37 #[.int .i64 k] w fun e w' => e = .returned (.bool (isKindB k)) ∧ w = w' := by
  go_enter Tryd.func37, Tryd.ntmps37
  go_wp2
  all_goals
    go_ret
    exact ⟨by simp_all [isKindB] <;> (intros; omega), rfl⟩
def pHas (p : Pkt) : Int := hasL.getD p.kind.toNat 0
def numB (p : Pkt) : Bool := decide (bits .and .i64 (pHas p) 8 > 0) || (decide (bits .and .i64 (pHas p) 4 > 0) && (p.msg.qos != 0))
set_option maxRecDepth 100000 in
theorem numbered_any {w : World} (hg : Gl w) (p : Pkt) (cs : List Value) (h : kPkt.K w p cs) (h0 : 1 ≤ p.kind) (h1 : p.kind ≤ 14) :
    Calls Tryd.prog 43 #[.agg cs.toArray] w fun e w' => e = .returned (.bool (numB p)) ∧ Below w.heap.size w w' := by
  obtain ⟨Aw, nw, Ap, np, Am, nm, Aa, na, Ac, nc, Af, nf, rfl, _⟩ := pkt_K h
  have x := hg.has p.kind.toNat (by omega)
  have hs := hg.sz
  have HN := Aside0.mk (show numB p = (decide (bits .and .i64 (pHas p) 8 > 0) || (decide (bits .and .i64 (pHas p) 4 > 0) && (p.msg.qos != 0))) from rfl)
  have x2 : w.cell? ⟨1, p.kind.toNat, none⟩ = some (.int .i64 (pHas p)) := x
  clear hg h x
  have q0 : (0 : Int) ≤ p.kind := by omega
  have q1 : p.kind < 15 := by omega
  generalize pHas p = hh at *
  have x3 : ∀ o, (w.alloc o).cell? ⟨1, p.kind.toNat, none⟩ = some (.int .i64 hh) := fun o => (World.cell?_alloc_past _ _ _ (by show _ < w.heap.size; exact Nat.lt_of_lt_of_le (by decide) hs)).trans x2
  clear hs
  simp only [pktCells]
  go_enter Tryd.func43, Tryd.ntmps43
  go_wp2
  all_goals
    go_ret
    exact ⟨by rw [HN.out]; simp_all <;> (intros; omega), below_alloc (Below.refl _ _) _⟩
end Go.Proofs.YthlbcgaegaoanaaDoor.Cr

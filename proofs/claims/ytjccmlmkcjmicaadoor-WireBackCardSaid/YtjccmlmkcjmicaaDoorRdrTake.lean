/- wire's Reader: take, number, and note where nothing panicked. No statement of the program. -/
import Derived.Test.YtjccmlmkcjmicaaDoorRdr
import Derived.Recover
import Derived.Defers
namespace Go.Proofs.YtjccmlmkcjmicaaDoor.Rdr
open Go Go.RowKit Go.Proofs.YtjccmlmkcjmicaaDoorW.PrintWords Go.Proofs.YtjccmlmkcjmicaaDoorW.PrintLast Go.Proofs.YtjccmlmkcjmicaaDoorW.PrintMore
set_option linter.unusedVariables false
set_option linter.unusedSimpArgs false

/-- but for one block, all that was there stays -/
def Keep (w w' : World) (B : Nat) : Prop := w.heap.size ≤ w'.heap.size ∧ ∀ k, k < w.heap.size → k ≠ B → w'.heap[k]? = w.heap[k]?
theorem Keep.refl (w : World) (B : Nat) : Keep w w B := ⟨Nat.le_refl _, fun _ _ _ => rfl⟩
theorem Keep.drew {w w' : World} {B : Nat} (h : Keep w w' B) : Keep w w'.drew B := h
theorem Keep.drewN {w w' : World} {B : Nat} (h : Keep w w' B) (m : Nat) : Keep w (w'.drewN m) B := h
theorem Keep.setCell {w w' : World} {B : Nat} (h : Keep w w' B) (j : Nat) (u : Value) : Keep w (w'.setCell ⟨B, j, none⟩ u) B :=
  ⟨by simpa using h.1, fun k hk hn => (Below.heap_setCell _ _ _ _ hn).trans (h.2 k hk hn)⟩
theorem Keep.below {w w1 w2 : World} {B : Nat} (h : Keep w w1 B) (hb : Below w1.heap.size w1 w2) : Keep w w2 B :=
  ⟨Nat.le_trans h.1 hb.size, fun k hk hn => (hb.block k (Nat.lt_of_lt_of_le hk h.1)).trans (h.2 k hk hn)⟩
theorem Keep.trans {w w1 w2 : World} {B : Nat} (h : Keep w w1 B) (h2 : Keep w1 w2 B) : Keep w w2 B :=
  ⟨Nat.le_trans h.1 h2.1, fun k hk hn => (h2.2 k (Nat.lt_of_lt_of_le hk h.1) hn).trans (h.2 k hk hn)⟩
/-- another reader stays -/
theorem RdAt.keep {w w1 : World} {base B B2 base2 : Nat} {l l2 : List Int} {a a2 : Int} {ev ev2 : Value} (h : RdAt w base B l a ev) (h2 : RdAt w base2 B2 l2 a2 ev2) (hk : Keep w w1 B2) (hne : B ≠ B2) : RdAt w1 base B l a ev := by
  obtain ⟨v, h1, hr, hb⟩ := h
  obtain ⟨v2, g1, _, _⟩ := h2
  refine ⟨v, (hk.2 B (blk_lt h1) hne).trans h1, ?_, hb⟩
  exact Kd.R_mono (Kd.R_step (Kd.R_types hr g1 (by decide)) (fun k ho hlt => hk.2 k hlt ho.2)) (fun _ _ => trivial)

set_option maxRecDepth 100000 in
theorem take_ok {w : World} {base B : Nat} {l : List Int} {a n : Int} {ev : Value} (h : RdAt w base B l a ev) (ha : 0 ≤ a) (hn : 0 ≤ n) (hl : a + n ≤ l.length) (ys : List Int) (hys : ys = (l.drop a.toNat).take n.toNat) :
    Calls Tryd.prog 35 #[.pointer (some ⟨B, 0, none⟩), .int .i64 n] w fun e w' => ∃ A' c', e = .returned (.slice A' ys.length c') ∧ ys.length ≤ c' ∧ (Kd.int .u8).C w' A' ys.length ys ∧ RdAt w' base B l (a + n) ev ∧ Below base w w' ∧ Keep w w' B := by
  obtain ⟨A, cc, hc, x0, x1, x2, xf, hC⟩ := h.cells
  have hm := Kd.C_max hC
  have hs := h.setAt (a + n)
  obtain ⟨A2, cc2, hc2, y0, y1, y2, yf, hC2⟩ := hs.cells
  have hset := hs
  have q0 : (w.setCell ⟨B, 1, none⟩ (.int .i64 (a + n))).cell? ⟨B, 0, none⟩ = some (.slice A l.length cc) :=
    (World.cell?_setCell_other _ _ _ _ (by simp)).trans x0
  obtain ⟨rfl, rfl⟩ : A = A2 ∧ cc = cc2 := by
    rw [q0] at y0; injection y0 with y0; injection y0 with e1 e2 e3; exact ⟨e1, e3⟩
  clear x2 y2 hC
  have e1 : wrap64 ((l.length : Int) - a) = l.length - a := by unfold wrap64; omega
  have e2 : wrap64 (a + n) = a + n := by unfold wrap64; omega
  have e3 : wrap64 (a + n - n) = a := by unfold wrap64; omega
  have t1 : decide ((l.length : Int) - a < n) = false := decide_eq_false (by omega)
  have t2 : decide (n > (l.length : Int) - a) = false := decide_eq_false (by omega)
  have HC2 := Aside0.mk hC2
  have HS := Aside0.mk hset
  have HH := Aside0.mk h
  have HY := Aside0.mk hys
  clear hC2 hset h hs hys
  go_enter Tryd.func35, Tryd.ntmps35
  go_upto_region 1 with fail
  refine start_ (n := 12) (S := fun w' => w'.cell? ⟨B, 0, none⟩ = some (.slice A l.length cc) ∧ w'.cell? ⟨B, 1, none⟩ = some (.int .i64 a)) (ds := []) #[false, false, false, false, false, false, false, false, false, false, false, false] (by kernel_rfl) rfl rfl ⟨x0, x1⟩ (fun hHeld => ?_)
  refine pure_ (i := 0) (N := some 5) (v := ?_) (a' := ?_) #[true, false, false, false, false, false, false, false, false, false, false, false] rfl rfl (by kernel_rfl) (fun _ _ _ h => h) (Or.inl ⟨by rfl, ?_⟩) ?_ ?_
  rotate_left
  · intro w'
    go_simp
    with_reducible rfl
  rotate_left
  · simp only [Act.put, List.setIfInBounds_toArray, List.set_cons_zero, List.set_cons_succ, i64_w, i32_w]
    rfl
  refine pure_ (i := 1) (N := some 6) (v := ?_) (a' := ?_) #[true, true, false, false, false, false, false, false, false, false, false, false] rfl rfl (by kernel_rfl) (fun _ _ _ h => h) (Or.inl ⟨by rfl, ?_⟩) ?_ ?_
  rotate_left
  · intro w'
    go_simp
    with_reducible rfl
  rotate_left
  · simp only [Act.put, List.setIfInBounds_toArray, List.set_cons_zero, List.set_cons_succ, i64_w, i32_w]
    rfl
  refine pure_ (i := 2) (N := some 7) (v := ?_) (a' := ?_) #[true, true, true, false, false, false, false, false, false, false, false, false] rfl rfl (by kernel_rfl) (fun _ _ _ h => h) (Or.inl ⟨by rfl, ?_⟩) ?_ ?_
  rotate_left
  · intro w'
    go_simp
    with_reducible rfl
  rotate_left
  · simp only [Act.put, List.setIfInBounds_toArray, List.set_cons_zero, List.set_cons_succ, i64_w, i32_w]
    rfl
  refine pure_ (i := 3) (N := some 8) (v := ?_) (a' := ?_) #[true, true, true, true, false, false, false, false, false, false, false, false] rfl rfl (by kernel_rfl) (fun _ _ _ h => h) (Or.inl ⟨by rfl, ?_⟩) ?_ ?_
  rotate_left
  · intro w'
    go_simp
    with_reducible rfl
  rotate_left
  · simp only [Act.put, List.setIfInBounds_toArray, List.set_cons_zero, List.set_cons_succ, i64_w, i32_w]
    rfl
  refine pure_ (i := 6) (N := some 11) (v := ?_) (a' := ?_) #[true, true, true, true, false, false, true, false, false, false, false, false] rfl rfl (by kernel_rfl) (fun _ _ _ h => h) (Or.inl ⟨by rfl, ?_⟩) ?_ ?_
  rotate_left
  · intro w'
    go_simp
    with_reducible rfl
  rotate_left
  · simp only [Act.put, List.setIfInBounds_toArray, List.set_cons_zero, List.set_cons_succ, i64_w, i32_w]
    rfl
  refine pure_ (i := 7) (N := some 12) (v := ?_) (a' := ?_) #[true, true, true, true, false, false, true, true, false, false, false, false] rfl rfl (by kernel_rfl) (fun _ _ _ h => h) (Or.inl ⟨by rfl, ?_⟩) ?_ ?_
  rotate_left
  · intro w'
    go_simp
    with_reducible rfl
  rotate_left
  · simp only [Act.put, List.setIfInBounds_toArray, List.set_cons_zero, List.set_cons_succ, i64_w, i32_w]
    rfl
  refine pure_ (i := 8) (N := some 13) (v := ?_) (a' := ?_) #[true, true, true, true, false, false, true, true, true, false, false, false] rfl rfl (by kernel_rfl) (fun _ _ _ h => h) (Or.inl ⟨by rfl, ?_⟩) ?_ ?_
  rotate_left
  · intro w'
    go_simp
    with_reducible rfl
  rotate_left
  · simp only [Act.put, List.setIfInBounds_toArray, List.set_cons_zero, List.set_cons_succ, i64_w, i32_w]
    rfl
  refine take_ (i := 4) (N := some 9) (v := ?_) (a' := ?_) #[true, true, true, true, true, false, true, true, true, false, false, false] rfl rfl (by kernel_rfl) (fun _ _ _ h => h) (Or.inl ⟨by rfl, ?_⟩) hHeld ?_ ?_
  rotate_left
  · rintro w' ⟨s0, s1⟩
    go_simp
    with_reducible rfl
  rotate_left
  · simp only [Act.put, List.setIfInBounds_toArray, List.set_cons_zero, List.set_cons_succ, i64_w, i32_w]
    rfl
  refine pure_ (i := 5) (N := some 10) (v := ?_) (a' := ?_) #[true, true, true, true, true, true, true, true, true, false, false, false] rfl rfl (by kernel_rfl) (fun _ _ _ h => h) (Or.inl ⟨by rfl, ?_⟩) ?_ ?_
  rotate_left
  · intro w'
    go_simp
    with_reducible rfl
  rotate_left
  · simp only [Act.put, List.setIfInBounds_toArray, List.set_cons_zero, List.set_cons_succ, i64_w, i32_w]
    rfl
  refine take_ (i := 9) (N := some 14) (v := ?_) (a' := ?_) #[true, true, true, true, true, true, true, true, true, true, false, false] rfl rfl (by kernel_rfl) (fun _ _ _ h => h) (Or.inl ⟨by rfl, ?_⟩) hHeld ?_ ?_
  rotate_left
  · rintro w' ⟨s0, s1⟩
    go_simp
    with_reducible rfl
  rotate_left
  · simp only [Act.put, List.setIfInBounds_toArray, List.set_cons_zero, List.set_cons_succ, i64_w, i32_w]
    rfl
  refine pure_ (i := 10) (N := some 15) (v := ?_) (a' := ?_) #[true, true, true, true, true, true, true, true, true, true, true, false] rfl rfl (by kernel_rfl) (fun _ _ _ h => h) (Or.inl ⟨by rfl, ?_⟩) ?_ ?_
  rotate_left
  · intro w'
    go_simp
    with_reducible rfl
  rotate_left
  · simp only [Act.put, List.setIfInBounds_toArray, List.set_cons_zero, List.set_cons_succ, i64_w, i32_w]
    rfl
  refine pure_ (i := 11) (N := some 16) (v := ?_) (a' := ?_) #[true, true, true, true, true, true, true, true, true, true, true, true] rfl rfl (by kernel_rfl) (fun _ _ _ h => h) (Or.inl ⟨by rfl, ?_⟩) ?_ ?_
  rotate_left
  · intro w'
    go_simp
    with_reducible rfl
  rotate_left
  · simp only [Act.put, List.setIfInBounds_toArray, List.set_cons_zero, List.set_cons_succ, i64_w, i32_w]
    rfl
  refine done_ (by kernel_rfl) ?_
  go_upto_region 4 with fail
  have c0 : wrap64 a = a := by unfold wrap64; omega
  have c1 : 0 ≤ a ∧ a ≤ max (a + n) 0 := ⟨ha, by omega⟩
  have c2 : a + n ≤ (cc : Int) := by omega
  have c3 : 0 ≤ a + n := by omega
  refine start_ (n := 16) (S := fun w' => w'.cell? ⟨B, 0, none⟩ = some (.slice A l.length cc) ∧ w'.cell? ⟨B, 1, none⟩ = some (.int .i64 (a + n))) (ds := []) #[false, false, false, false, false, false, false, false, false, false, false, false, false, false, false, false] (by kernel_rfl) rfl rfl ⟨y0, y1⟩ (fun hHeld => ?_)
  refine pure_ (i := 0) (N := some 31) (v := ?_) (a' := ?_) #[true, false, false, false, false, false, false, false, false, false, false, false, false, false, false, false] rfl rfl (by kernel_rfl) (fun _ _ _ h => h) (Or.inl ⟨by rfl, ?_⟩) ?_ ?_
  rotate_left
  · intro w'
    go_simp
    with_reducible rfl
  rotate_left
  · simp only [Act.put, List.setIfInBounds_toArray, List.set_cons_zero, List.set_cons_succ, i64_w, i32_w]
    rfl
  refine pure_ (i := 1) (N := some 32) (v := ?_) (a' := ?_) #[true, true, false, false, false, false, false, false, false, false, false, false, false, false, false, false] rfl rfl (by kernel_rfl) (fun _ _ _ h => h) (Or.inl ⟨by rfl, ?_⟩) ?_ ?_
  rotate_left
  · intro w'
    go_simp
    with_reducible rfl
  rotate_left
  · simp only [Act.put, List.setIfInBounds_toArray, List.set_cons_zero, List.set_cons_succ, i64_w, i32_w]
    rfl
  refine pure_ (i := 2) (N := some 33) (v := ?_) (a' := ?_) #[true, true, true, false, false, false, false, false, false, false, false, false, false, false, false, false] rfl rfl (by kernel_rfl) (fun _ _ _ h => h) (Or.inl ⟨by rfl, ?_⟩) ?_ ?_
  rotate_left
  · intro w'
    go_simp
    with_reducible rfl
  rotate_left
  · simp only [Act.put, List.setIfInBounds_toArray, List.set_cons_zero, List.set_cons_succ, i64_w, i32_w]
    rfl
  refine pure_ (i := 4) (N := some 35) (v := ?_) (a' := ?_) #[true, true, true, false, true, false, false, false, false, false, false, false, false, false, false, false] rfl rfl (by kernel_rfl) (fun _ _ _ h => h) (Or.inl ⟨by rfl, ?_⟩) ?_ ?_
  rotate_left
  · intro w'
    go_simp
    with_reducible rfl
  rotate_left
  · simp only [Act.put, List.setIfInBounds_toArray, List.set_cons_zero, List.set_cons_succ, i64_w, i32_w]
    rfl
  refine pure_ (i := 5) (N := some 36) (v := ?_) (a' := ?_) #[true, true, true, false, true, true, false, false, false, false, false, false, false, false, false, false] rfl rfl (by kernel_rfl) (fun _ _ _ h => h) (Or.inl ⟨by rfl, ?_⟩) ?_ ?_
  rotate_left
  · intro w'
    go_simp
    with_reducible rfl
  rotate_left
  · simp only [Act.put, List.setIfInBounds_toArray, List.set_cons_zero, List.set_cons_succ, i64_w, i32_w]
    rfl
  refine pure_ (i := 6) (N := some 37) (v := ?_) (a' := ?_) #[true, true, true, false, true, true, true, false, false, false, false, false, false, false, false, false] rfl rfl (by kernel_rfl) (fun _ _ _ h => h) (Or.inl ⟨by rfl, ?_⟩) ?_ ?_
  rotate_left
  · intro w'
    go_simp
    with_reducible rfl
  rotate_left
  · simp only [Act.put, List.setIfInBounds_toArray, List.set_cons_zero, List.set_cons_succ, i64_w, i32_w]
    rfl
  refine pure_ (i := 8) (N := some 39) (v := ?_) (a' := ?_) #[true, true, true, false, true, true, true, false, true, false, false, false, false, false, false, false] rfl rfl (by kernel_rfl) (fun _ _ _ h => h) (Or.inl ⟨by rfl, ?_⟩) ?_ ?_
  rotate_left
  · intro w'
    go_simp
    with_reducible rfl
  rotate_left
  · simp only [Act.put, List.setIfInBounds_toArray, List.set_cons_zero, List.set_cons_succ, i64_w, i32_w]
    rfl
  refine pure_ (i := 10) (N := some 41) (v := ?_) (a' := ?_) #[true, true, true, false, true, true, true, false, true, false, true, false, false, false, false, false] rfl rfl (by kernel_rfl) (fun _ _ _ h => h) (Or.inl ⟨by rfl, ?_⟩) ?_ ?_
  rotate_left
  · intro w'
    go_simp
    with_reducible rfl
  rotate_left
  · simp only [Act.put, List.setIfInBounds_toArray, List.set_cons_zero, List.set_cons_succ, i64_w, i32_w]
    rfl
  refine pure_ (i := 11) (N := some 42) (v := ?_) (a' := ?_) #[true, true, true, false, true, true, true, false, true, false, true, true, false, false, false, false] rfl rfl (by kernel_rfl) (fun _ _ _ h => h) (Or.inl ⟨by rfl, ?_⟩) ?_ ?_
  rotate_left
  · intro w'
    go_simp
    with_reducible rfl
  rotate_left
  · simp only [Act.put, List.setIfInBounds_toArray, List.set_cons_zero, List.set_cons_succ, i64_w, i32_w]
    rfl
  refine pure_ (i := 12) (N := some 43) (v := ?_) (a' := ?_) #[true, true, true, false, true, true, true, false, true, false, true, true, true, false, false, false] rfl rfl (by kernel_rfl) (fun _ _ _ h => h) (Or.inl ⟨by rfl, ?_⟩) ?_ ?_
  rotate_left
  · intro w'
    go_simp
    with_reducible rfl
  rotate_left
  · simp only [Act.put, List.setIfInBounds_toArray, List.set_cons_zero, List.set_cons_succ, i64_w, i32_w]
    rfl
  refine take_ (i := 3) (N := some 34) (v := ?_) (a' := ?_) #[true, true, true, true, true, true, true, false, true, false, true, true, true, false, false, false] rfl rfl (by kernel_rfl) (fun _ _ _ h => h) (Or.inl ⟨by rfl, ?_⟩) hHeld ?_ ?_
  rotate_left
  · rintro w' ⟨s0, s1⟩
    go_simp
    with_reducible rfl
  rotate_left
  · simp only [Act.put, List.setIfInBounds_toArray, List.set_cons_zero, List.set_cons_succ, i64_w, i32_w]
    rfl
  refine take_ (i := 7) (N := some 38) (v := ?_) (a' := ?_) #[true, true, true, true, true, true, true, true, true, false, true, true, true, false, false, false] rfl rfl (by kernel_rfl) (fun _ _ _ h => h) (Or.inl ⟨by rfl, ?_⟩) hHeld ?_ ?_
  rotate_left
  · rintro w' ⟨s0, s1⟩
    go_simp
    with_reducible rfl
  rotate_left
  · simp only [Act.put, List.setIfInBounds_toArray, List.set_cons_zero, List.set_cons_succ, i64_w, i32_w]
    rfl
  refine pure_ (i := 9) (N := some 40) (v := ?_) (a' := ?_) #[true, true, true, true, true, true, true, true, true, true, true, true, true, false, false, false] rfl rfl (by kernel_rfl) (fun _ _ _ h => h) (Or.inl ⟨by rfl, ?_⟩) ?_ ?_
  rotate_left
  · intro w'
    go_simp
    with_reducible rfl
  rotate_left
  · simp only [Act.put, List.setIfInBounds_toArray, List.set_cons_zero, List.set_cons_succ, i64_w, i32_w]
    rfl
  refine take_ (i := 13) (N := some 44) (v := ?_) (a' := ?_) #[true, true, true, true, true, true, true, true, true, true, true, true, true, true, false, false] rfl rfl (by kernel_rfl) (fun _ _ _ h => h) (Or.inl ⟨by rfl, ?_⟩) hHeld ?_ ?_
  rotate_left
  · rintro w' ⟨s0, s1⟩
    go_simp
    with_reducible rfl
  rotate_left
  · simp only [Act.put, List.setIfInBounds_toArray, List.set_cons_zero, List.set_cons_succ, i64_w, i32_w]
    rfl
  refine pure_ (i := 14) (N := some 45) (v := ?_) (a' := ?_) #[true, true, true, true, true, true, true, true, true, true, true, true, true, true, true, false] rfl rfl (by kernel_rfl) (fun _ _ _ h => h) (Or.inl ⟨by rfl, ?_⟩) ?_ ?_
  rotate_left
  · intro w'
    go_simp
    with_reducible rfl
  rotate_left
  · simp only [Act.put, List.setIfInBounds_toArray, List.set_cons_zero, List.set_cons_succ, i64_w, i32_w]
    rfl
  refine pure_ (i := 15) (N := some 4) (v := ?_) (a' := ?_) #[true, true, true, true, true, true, true, true, true, true, true, true, true, true, true, true] rfl rfl (by kernel_rfl) (fun _ _ _ h => h) (Or.inl ⟨by rfl, ?_⟩) ?_ ?_
  rotate_left
  · intro w'
    go_simp
    with_reducible rfl
  rotate_left
  · simp only [Act.put, List.setIfInBounds_toArray, List.set_cons_zero, List.set_cons_succ, i64_w, i32_w]
    rfl
  refine done_ (by kernel_rfl) ?_
  generalize hA' : (if cc = a.toNat then A else Option.map (fun x => x.add a.toNat) A) = A'
  generalize hn' : (a + n).toNat - a.toNat = n'
  have HA := Aside0.mk hA'
  have HN := Aside0.mk hn'
  clear hA' hn'
  go_wp2
  have hlen : ((l.drop a.toNat).take n.toNat).length = n' := by rw [← HN.out, List.length_take, List.length_drop]; omega
  have hlist : (l.take (a + n).toNat).drop a.toNat = (l.drop a.toNat).take n.toNat := by rw [List.drop_take]; congr 1; omega
  have hlen : ys.length = n' := by rw [HY.out]; exact hlen
  have hmid := Kd.C_mid (lo := a.toNat) (hi := (a + n).toNat) HC2.out (by omega) (by omega) hc
  rw [hlist, ← HY.out] at hmid
  go_ret
  refine ⟨A', cc - a.toNat, by rw [hlen]; rfl, by rw [hlen, ← HN.out]; omega, ?_, ?_, ?_, ?_⟩
  · have e : (a.toNat * (Kd.int .u8).sz) = a.toNat := Nat.mul_one _
    rw [e, HA.out] at hmid
    exact Kd.C_drew (Kd.C_drew hmid)
  · exact RdAt.below HS.out (below_drew1 (below_drew1 (Below.refl _ _)))
  · exact below_drew1 (below_drew1 ((Below.refl _ _).setCell HH.out.ge _))
  · exact ((Keep.refl _ _).setCell _ _).drew.drew
/-- big-endian, as the code joins bytes -/
def joinG (xs : List Int) : Int := xs.foldl (fun x c => Go.bits .or .i64 (wrap64 (x * 256)) (wrap64 c)) 0
theorem joinG_succ (ys : List Int) (k : Nat) (hk : k < ys.length) : joinG (ys.take (k + 1)) = Go.bits .or .i64 (wrap64 (joinG (ys.take k) * 256)) (wrap64 (rd ys (k : Int))) := by
  have e : rd ys (k : Int) = ys[k] := by unfold rd; simp [List.getD_eq_getElem?_getD, List.getElem?_eq_getElem hk]
  rw [← List.take_append_getElem hk, e]
  unfold joinG
  rw [List.foldl_append]
  rfl

set_option maxRecDepth 100000 in
set_option maxHeartbeats 1000000 in
theorem number_ok {w : World} {base B : Nat} {l : List Int} {a n : Int} {ev : Value} (h : RdAt w base B l a ev) (ha : 0 ≤ a) (hn : 0 ≤ n) (hl : a + n ≤ l.length) (ys : List Int) (hys : ys = (l.drop a.toNat).take n.toNat) :
    Calls Tryd.prog 33 #[.pointer (some ⟨B, 0, none⟩), .int .i64 n] w fun e w' => e = .returned (.int .i64 (joinG ys)) ∧ RdAt w' base B l (a + n) ev ∧ Below base w w' ∧ Keep w w' B := by
  have HH := Aside0.mk h
  have HY := Aside0.mk hys
  have HL := Aside0.mk hl
  clear h hys hl
  go_enter Tryd.func33, Tryd.ntmps33
  go_wp2_with (go_at_call 35; refine (take_ok HH.out ha hn HL.out ys HY.out).mono ?_; rintro e w2 ⟨A', c', rfl, hc', hC, hR, hB, hK⟩; have HK0 := Aside0.mk hK; clear hK; have HC := Aside0.mk hC; have HR := Aside0.mk hR; have HB := Aside0.mk hB; clear hC hR hB)
  go_loopg [5, 12] ys.length (fun q x i wr => ∃ k : Nat, k + q = ys.length ∧ x = .int .i64 (joinG (ys.take k)) ∧ i = .int .i64 (k : Int) ∧ w2 = wr)
  case atStart => exact ⟨0, by omega, rfl, rfl, rfl⟩
  case round =>
    obtain ⟨k, hk, rfl, rfl, rfl⟩ := hrel
    have HK := Aside0.mk hk
    clear hk
    by_cases hlt : k < ys.length
    · have b0 : decide ((k : Int) < (ys.length : Int)) = true := decide_eq_true (by omega)
      have p0 : 0 ≤ (k : Int) := by omega
      have q0 : (k : Int) < (ys.length : Int) := by omega
      obtain ⟨ad, rfl, hx⟩ := Kd.at_int HC.out (k : Int) p0 q0
      simp only [Int.toNat_natCast] at hx
      obtain ⟨q1, rfl⟩ : ∃ q1, gk = q1 + 1 := ⟨gk - 1, by have := HK.out; omega⟩
      have ew : wrap64 ((k : Int) + 1) = ((k + 1 : Nat) : Int) := by have := Kd.C_max HC.out; unfold wrap64; omega
      have ej := Aside0.mk (joinG_succ ys k hlt)
      go_wp2
      go_roundg q1
      case measure => exact Nat.lt_succ_self _
      case rel => exact ⟨k + 1, by have := HK.out; omega, by rw [ej.out], by simp [ew], rfl⟩
    · have b0 : decide ((k : Int) < (ys.length : Int)) = false := decide_eq_false (by omega)
      go_wp2
      go_ret
      have ek : k = ys.length := by have := HK.out; omega
      exact ⟨by rw [ek, List.take_length]; rfl, HR.out, HB.out, HK0.out⟩

theorem wp_gen {P : Program} {c : Code} {Q : Exit → Act → World → Prop} {a : Act} {w : World} (h : ∀ K : Exit → Act → World → Prop, (∀ e a' w', Q e a' w' → K e a' w') → c.wp P K a w) : c.wp P Q a w := h Q (fun _ _ _ h => h)

theorem wp_act {P : Program} {c : Code} {Q : Exit → Act → World → Prop} {a a2 : Act} {w : World} (h : a = a2) (h2 : c.wp P Q a2 w) : c.wp P Q a w := h ▸ h2

set_option maxRecDepth 100000 in
theorem note_idle {w : World} (B : Nat) (a : Int) :
    CallsD Tryd.prog 32 #[.pointer (some ⟨B, 0, none⟩), .int .i64 a] .returning w fun e u' w' => e = .returned (.tuple #[]) ∧ u' = .returning ∧ w' = w := by
  refine callsD_of_wpS Tryd.func32 rfl fun c₀ cs hu => ?_
  apply wpS_seq
  apply wpS_region
  simp [wpOpsS, go_sem, recoverD, hu, Tryd.ntmps32, Exit.thenS]
  have hq : ∀ w : World, (binOp .eql 20 .nilIface .nilIface).run Tryd.prog w = .ok (.bool true) w := fun _ => by rfl
  refine wpS_of_wp (wp_gen fun K hK => ?_)
  refine wp_act (a2 := { tmps := #[.pointer (some ⟨B, 0, none⟩), .int .i64 a, undef, undef, undef, undef, undef, .nilIface, undef, undef, undef, undef, undef, undef, undef, undef, undef, undef, undef, undef, undef], defers := [] }) (by kernel_rfl) ?_
  go_wp2
  cases c₀
  simp_all [bodyPostS, results, Tryd.results32]
end Go.Proofs.YtjccmlmkcjmicaaDoor.Rdr

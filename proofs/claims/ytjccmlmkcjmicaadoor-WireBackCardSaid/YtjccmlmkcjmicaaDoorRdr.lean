/- wire's Reader in memory, and the walks of Read, At, Err, End and of Byte behind a fault. No statement of the program. -/
import Derived.Test.YtjccmlmkcjmicaaDoorPWireBackx1
namespace Go.Proofs.YtjccmlmkcjmicaaDoor.Rdr
open Go Go.RowKit Go.Proofs.YtjccmlmkcjmicaaDoorW.PrintWords Go.Proofs.YtjccmlmkcjmicaaDoorW.PrintLast Go.Proofs.YtjccmlmkcjmicaaDoorW.PrintMore
set_option linter.unusedVariables false
set_option linter.unusedSimpArgs false

theorem infoU8 : (Tryd.prog.info? 5).map (fun i => (i.zero, i.size, i.bytes)) = some (some (.int .u8 0), 1, 1) := by kernel_rfl

theorem own_any (l : List Int) (A : Option Addr) (c : Nat) (w : World) (hr : (Kd.int .u8).C w A l.length l) (hl : l.length ≤ 1099511627776) :
    Calls Tryd.prog 31 #[.slice A l.length c] w fun e w' => ∃ v, e = .returned v ∧ (Kd.int .u8).R 5 w' w.heap.size (fun _ => True) v l ∧ Below w.heap.size w w' := by
  have HR := Aside0.mk (Kd.reads_of_C (d := (0 : Int)) hr)
  clear hr
  go_enter Tryd.func31, Tryd.ntmps31
  go_wp2_with (at_builtin; refine print_append_row (w0 := w) w.heap.size rfl (.const (.slice none 0 0)) (.tmp 3) 28 5 .u8 1 rfl Tryd.underlying28 infoU8 (by omega) (.slice none 0 0) [] l A l.length c rfl rfl ?aO ?aR ?aB ?aS ?aL ?_)
  case aO => exact own_nil _ _ _ _
  case aR => exact HR.out
  case aB => exact Below.refl _ _
  case aS => exact Nat.le_refl _
  case aL => simp; omega
  intro v w1 hown hb hg hat
  have HO := Aside0.mk hown
  have HB := Aside0.mk hb
  clear hown hb hg hat
  go_wp2
  go_ret
  exact ⟨v, rfl, Kd.R_of_own HO.out (fun _ _ => trivial), HB.out⟩

/-- a reader: its bytes, how many are taken, its fault -/
def RdAt (w : World) (base B : Nat) (l : List Int) (a : Int) (ev : Value) : Prop :=
  ∃ v, w.heap[B]? = some (.cells #[v, .int .i64 a, ev] 59 (0, 0)) ∧ (Kd.int .u8).R 5 w base (fun _ => True) v l ∧ base ≤ B

theorem RdAt.below {w w1 : World} {base B : Nat} {l : List Int} {a : Int} {ev : Value} (h : RdAt w base B l a ev) (hb : Below w.heap.size w w1) : RdAt w1 base B l a ev := by
  obtain ⟨v, h1, h2, h3⟩ := h
  exact ⟨v, (hb.block B (Array.getElem?_eq_some_iff.1 h1).1).trans h1, Kd.R_below h2 hb, h3⟩

theorem RdAt.lt {w : World} {base B : Nat} {l : List Int} {a : Int} {ev : Value} (h : RdAt w base B l a ev) : B < w.heap.size := by
  obtain ⟨v, h1, h2, h3⟩ := h
  exact (Array.getElem?_eq_some_iff.1 h1).1

theorem RdAt.setErr {w : World} {base B : Nat} {l : List Int} {a : Int} {ev : Value} (h : RdAt w base B l a ev) (u : Value) : RdAt (w.setCell ⟨B, 2, none⟩ u) base B l a u := by
  obtain ⟨v, h1, h2, h3⟩ := h
  exact ⟨v, blk_set h1 2 u, Kd.R_set h2 h1 (by decide) 2 u, h3⟩
theorem RdAt.setAt {w : World} {base B : Nat} {l : List Int} {a : Int} {ev : Value} (h : RdAt w base B l a ev) (b : Int) : RdAt (w.setCell ⟨B, 1, none⟩ (.int .i64 b)) base B l b ev := by
  obtain ⟨v, h1, h2, h3⟩ := h
  exact ⟨v, blk_set h1 1 _, Kd.R_set h2 h1 (by decide) 1 _, h3⟩
theorem RdAt.ge {w : World} {base B : Nat} {l : List Int} {a : Int} {ev : Value} (h : RdAt w base B l a ev) : base ≤ B := by
  obtain ⟨v, h1, h2, h3⟩ := h
  exact h3

theorem read_any (l : List Int) (A : Option Addr) (c : Nat) (w : World) (hr : (Kd.int .u8).C w A l.length l) (hl : l.length ≤ 1099511627776) :
    Calls Tryd.prog 12 #[.slice A l.length c] w fun e w' => ∃ B, e = .returned (.pointer (some ⟨B, 0, none⟩)) ∧ RdAt w' w.heap.size B l 0 (.pointer none) ∧ Below w.heap.size w w' := by
  have HR := Aside0.mk hr
  clear hr
  go_enter Tryd.func12, Tryd.ntmps12
  go_wp2_with (go_at_call 31; refine (own_any l A c _ HR.out hl).mono ?_; rintro e w1 ⟨v, rfl, hR, hB⟩; obtain ⟨A1, c1, rfl⟩ := Kd.R_slice hR)
  go_ret
  exact ⟨_, rfl, ⟨_, heap_alloc_new _ _, Kd.R_alloc hR _, hB.size⟩, hB.alloc hB.size _⟩

/-! ### the cells of a reader -/
theorem RdAt.cells {w : World} {base B : Nat} {l : List Int} {a : Int} {ev : Value} (h : RdAt w base B l a ev) :
    ∃ A c, l.length ≤ c ∧ w.cell? ⟨B, 0, none⟩ = some (.slice A l.length c) ∧ w.cell? ⟨B, 1, none⟩ = some (.int .i64 a) ∧ w.cell? ⟨B, 2, none⟩ = some ev ∧ (∀ j, w.frozen? ⟨B, j, none⟩ = false) ∧ (Kd.int .u8).C w A l.length l := by
  obtain ⟨v, h1, h2, h3⟩ := h
  obtain ⟨A, c, rfl, hc, hC⟩ := Kd.R_reads h2
  exact ⟨A, c, hc, blk_cell h1 0, blk_cell h1 1, blk_cell h1 2, fun j => blk_frozen h1 j, hC⟩

theorem at_any {w : World} {base B : Nat} {l : List Int} {a : Int} {ev : Value} (h : RdAt w base B l a ev) :
    Calls Tryd.prog 17 #[.pointer (some ⟨B, 0, none⟩)] w fun e w' => e = .returned (.int .i64 a) ∧ w' = w := by
  obtain ⟨A, c, hc, x0, x1, x2, xf, hC⟩ := h.cells
  clear hC h
  go_enter Tryd.func17, Tryd.ntmps17
  go_wp2
  go_ret
  exact ⟨rfl, rfl⟩

theorem err_nil {w : World} {base B : Nat} {l : List Int} {a : Int} (h : RdAt w base B l a (.pointer none)) :
    Calls Tryd.prog 20 #[.pointer (some ⟨B, 0, none⟩)] w fun e w' => e = .returned .nilIface ∧ w' = w := by
  obtain ⟨A, c, hc, x0, x1, x2, xf, hC⟩ := h.cells
  clear hC h
  go_enter Tryd.func20, Tryd.ntmps20
  go_wp2
  go_ret
  exact ⟨rfl, rfl⟩

/-- a fault in memory -/
def FltAt (w : World) (F : Nat) (p c : Int) : Prop := w.heap[F]? = some (.cells #[.int .i64 p, .int .i64 c] 52 (0, 0))

theorem err_some {w : World} {base B F : Nat} {l : List Int} {a p c : Int} (h : RdAt w base B l a (.pointer (some ⟨F, 0, none⟩))) (hF : FltAt w F p c) :
    Calls Tryd.prog 20 #[.pointer (some ⟨B, 0, none⟩)] w fun e w' => ∃ G, e = .returned (.iface 48 (.pointer (some ⟨G, 0, none⟩))) ∧ FltAt w' G p c ∧ w.heap.size ≤ G ∧ Below w.heap.size w w' := by
  obtain ⟨A, cc, hc, x0, x1, x2, xf, hC⟩ := h.cells
  clear hC h
  have y0 : w.cell? ⟨F, 0, none⟩ = some (.int .i64 p) := blk_cell hF 0
  have y1 : w.cell? ⟨F, 1, none⟩ = some (.int .i64 c) := blk_cell hF 1
  go_enter Tryd.func20, Tryd.ntmps20
  go_wp2
  go_ret
  exact ⟨_, rfl, heap_alloc_new _ _, Nat.le_refl _, (Below.refl _ _).alloc (Nat.le_refl _) _⟩

theorem byte_err {w : World} {base B F : Nat} {l : List Int} {a : Int} (h : RdAt w base B l a (.pointer (some ⟨F, 0, none⟩))) :
    Calls Tryd.prog 29 #[.pointer (some ⟨B, 0, none⟩)] w fun e w' => e = .returned (.int .u8 0) ∧ w' = w := by
  obtain ⟨A, cc, hc, x0, x1, x2, xf, hC⟩ := h.cells
  clear hC h
  go_enter_defers Tryd.func29, Tryd.ntmps29
  go_wp2
  exact ⟨_, results_tmp rfl _ _ _, rfl, rfl⟩

theorem end_left {w : World} {base B : Nat} {l : List Int} {a : Int} (h : RdAt w base B l a (.pointer none)) (hl : a < l.length) :
    Calls Tryd.prog 26 #[.pointer (some ⟨B, 0, none⟩)] w fun e w' => e = .returned (.tuple #[]) ∧ ∃ F, RdAt w' base B l a (.pointer (some ⟨F, 0, none⟩)) ∧ FltAt w' F a 15 ∧ Below base w w' := by
  obtain ⟨A, cc, hc, x0, x1, x2, xf, hC⟩ := h.cells
  clear hC
  have hb : B < w.heap.size := h.lt
  have z2 : (w.alloc (.cells #[.int .i64 a, .int .i64 15] 52)).cell? ⟨B, 2, none⟩ = some (.pointer none) := (World.cell?_alloc_past _ _ _ hb).trans x2
  have zf : (w.alloc (.cells #[.int .i64 a, .int .i64 15] 52)).frozen? ⟨B, 2, none⟩ = false := by rw [World.frozen?_alloc_old _ _ _ (Nat.ne_of_lt hb)]; exact xf 2
  have hl' : decide (a < (l.length : Int)) = true := decide_eq_true hl
  go_enter Tryd.func26, Tryd.ntmps26
  go_upto_region 0 with fail
  refine start_ (n := 17) (S := fun w' => w'.cell? ⟨B, 0, none⟩ = some (.slice A l.length cc) ∧ w'.cell? ⟨B, 1, none⟩ = some (.int .i64 a) ∧ w'.cell? ⟨B, 2, none⟩ = some (.pointer none)) (ds := []) #[false, false, false, false, false, false, false, false, false, false, false, false, false, false, false, false, false] (by kernel_rfl) rfl rfl ⟨x0, x1, x2⟩ (fun hHeld => ?_)
  refine pure_ (i := 0) (N := some 2) (v := ?_) (a' := ?_) #[true, false, false, false, false, false, false, false, false, false, false, false, false, false, false, false, false] rfl rfl (by kernel_rfl) (fun _ _ _ h => h) (Or.inl ⟨by rfl, ?_⟩) ?_ ?_
  rotate_left
  · intro w'
    go_simp
    with_reducible rfl
  rotate_left
  · simp only [Act.put, List.setIfInBounds_toArray, List.set_cons_zero, List.set_cons_succ, i64_w, i32_w]
    rfl
  refine pure_ (i := 1) (N := some 3) (v := ?_) (a' := ?_) #[true, true, false, false, false, false, false, false, false, false, false, false, false, false, false, false, false] rfl rfl (by kernel_rfl) (fun _ _ _ h => h) (Or.inl ⟨by rfl, ?_⟩) ?_ ?_
  rotate_left
  · intro w'
    go_simp
    with_reducible rfl
  rotate_left
  · simp only [Act.put, List.setIfInBounds_toArray, List.set_cons_zero, List.set_cons_succ, i64_w, i32_w]
    rfl
  refine pure_ (i := 2) (N := some 4) (v := ?_) (a' := ?_) #[true, true, true, false, false, false, false, false, false, false, false, false, false, false, false, false, false] rfl rfl (by kernel_rfl) (fun _ _ _ h => h) (Or.inl ⟨by rfl, ?_⟩) ?_ ?_
  rotate_left
  · intro w'
    go_simp
    with_reducible rfl
  rotate_left
  · simp only [Act.put, List.setIfInBounds_toArray, List.set_cons_zero, List.set_cons_succ, i64_w, i32_w]
    rfl
  refine take_ (i := 3) (N := some 5) (v := ?_) (a' := ?_) #[true, true, true, true, false, false, false, false, false, false, false, false, false, false, false, false, false] rfl rfl (by kernel_rfl) (fun _ _ _ h => h) (Or.inl ⟨by rfl, ?_⟩) hHeld ?_ ?_
  rotate_left
  · rintro w' ⟨s0, s1, s2⟩
    go_simp
    with_reducible rfl
  rotate_left
  · simp only [Act.put, List.setIfInBounds_toArray, List.set_cons_zero, List.set_cons_succ, i64_w, i32_w]
    rfl
  refine pure_ (i := 4) (N := some 6) (v := ?_) (a' := ?_) #[true, true, true, true, true, false, false, false, false, false, false, false, false, false, false, false, false] rfl rfl (by kernel_rfl) (fun _ _ _ h => h) (Or.inl ⟨by rfl, ?_⟩) ?_ ?_
  rotate_left
  · intro w'
    go_simp
    with_reducible rfl
  rotate_left
  · simp only [Act.put, List.setIfInBounds_toArray, List.set_cons_zero, List.set_cons_succ, i64_w, i32_w]
    rfl
  refine pure_ (i := 5) (N := some 7) (v := ?_) (a' := ?_) #[true, true, true, true, true, true, false, false, false, false, false, false, false, false, false, false, false] rfl rfl (by kernel_rfl) (fun _ _ _ h => h) (Or.inl ⟨by rfl, ?_⟩) ?_ ?_
  rotate_left
  · intro w'
    go_simp
    with_reducible rfl
  rotate_left
  · simp only [Act.put, List.setIfInBounds_toArray, List.set_cons_zero, List.set_cons_succ, i64_w, i32_w]
    rfl
  refine pure_ (i := 6) (N := some 8) (v := ?_) (a' := ?_) #[true, true, true, true, true, true, true, false, false, false, false, false, false, false, false, false, false] rfl rfl (by kernel_rfl) (fun _ _ _ h => h) (Or.inl ⟨by rfl, ?_⟩) ?_ ?_
  rotate_left
  · intro w'
    go_simp
    with_reducible rfl
  rotate_left
  · simp only [Act.put, List.setIfInBounds_toArray, List.set_cons_zero, List.set_cons_succ, i64_w, i32_w]
    rfl
  refine pure_ (i := 7) (N := some 9) (v := ?_) (a' := ?_) #[true, true, true, true, true, true, true, true, false, false, false, false, false, false, false, false, false] rfl rfl (by kernel_rfl) (fun _ _ _ h => h) (Or.inl ⟨by rfl, ?_⟩) ?_ ?_
  rotate_left
  · intro w'
    go_simp
    with_reducible rfl
  rotate_left
  · simp only [Act.put, List.setIfInBounds_toArray, List.set_cons_zero, List.set_cons_succ, i64_w, i32_w]
    rfl
  refine pure_ (i := 8) (N := some 10) (v := ?_) (a' := ?_) #[true, true, true, true, true, true, true, true, true, false, false, false, false, false, false, false, false] rfl rfl (by kernel_rfl) (fun _ _ _ h => h) (Or.inl ⟨by rfl, ?_⟩) ?_ ?_
  rotate_left
  · intro w'
    go_simp
    with_reducible rfl
  rotate_left
  · simp only [Act.put, List.setIfInBounds_toArray, List.set_cons_zero, List.set_cons_succ, i64_w, i32_w]
    rfl
  refine pure_ (i := 10) (N := some 12) (v := ?_) (a' := ?_) #[true, true, true, true, true, true, true, true, true, false, true, false, false, false, false, false, false] rfl rfl (by kernel_rfl) (fun _ _ _ h => h) (Or.inl ⟨by rfl, ?_⟩) ?_ ?_
  rotate_left
  · intro w'
    go_simp
    with_reducible rfl
  rotate_left
  · simp only [Act.put, List.setIfInBounds_toArray, List.set_cons_zero, List.set_cons_succ, i64_w, i32_w]
    rfl
  refine pure_ (i := 11) (N := some 13) (v := ?_) (a' := ?_) #[true, true, true, true, true, true, true, true, true, false, true, true, false, false, false, false, false] rfl rfl (by kernel_rfl) (fun _ _ _ h => h) (Or.inl ⟨by rfl, ?_⟩) ?_ ?_
  rotate_left
  · intro w'
    go_simp
    with_reducible rfl
  rotate_left
  · simp only [Act.put, List.setIfInBounds_toArray, List.set_cons_zero, List.set_cons_succ, i64_w, i32_w]
    rfl
  refine pure_ (i := 12) (N := some 14) (v := ?_) (a' := ?_) #[true, true, true, true, true, true, true, true, true, false, true, true, true, false, false, false, false] rfl rfl (by kernel_rfl) (fun _ _ _ h => h) (Or.inl ⟨by rfl, ?_⟩) ?_ ?_
  rotate_left
  · intro w'
    go_simp
    with_reducible rfl
  rotate_left
  · simp only [Act.put, List.setIfInBounds_toArray, List.set_cons_zero, List.set_cons_succ, i64_w, i32_w]
    rfl
  refine take_ (i := 9) (N := some 11) (v := ?_) (a' := ?_) #[true, true, true, true, true, true, true, true, true, true, true, true, true, false, false, false, false] rfl rfl (by kernel_rfl) (fun _ _ _ h => h) (Or.inl ⟨by rfl, ?_⟩) hHeld ?_ ?_
  rotate_left
  · rintro w' ⟨s0, s1, s2⟩
    go_simp
    with_reducible rfl
  rotate_left
  · simp only [Act.put, List.setIfInBounds_toArray, List.set_cons_zero, List.set_cons_succ, i64_w, i32_w]
    rfl
  refine take_ (i := 13) (N := some 15) (v := ?_) (a' := ?_) #[true, true, true, true, true, true, true, true, true, true, true, true, true, true, false, false, false] rfl rfl (by kernel_rfl) (fun _ _ _ h => h) (Or.inl ⟨by rfl, ?_⟩) hHeld ?_ ?_
  rotate_left
  · rintro w' ⟨s0, s1, s2⟩
    go_simp
    with_reducible rfl
  rotate_left
  · simp only [Act.put, List.setIfInBounds_toArray, List.set_cons_zero, List.set_cons_succ, i64_w, i32_w]
    rfl
  refine pure_ (i := 14) (N := some 16) (v := ?_) (a' := ?_) #[true, true, true, true, true, true, true, true, true, true, true, true, true, true, true, false, false] rfl rfl (by kernel_rfl) (fun _ _ _ h => h) (Or.inl ⟨by rfl, ?_⟩) ?_ ?_
  rotate_left
  · intro w'
    go_simp
    with_reducible rfl
  rotate_left
  · simp only [Act.put, List.setIfInBounds_toArray, List.set_cons_zero, List.set_cons_succ, i64_w, i32_w]
    rfl
  refine pure_ (i := 15) (N := some 17) (v := ?_) (a' := ?_) #[true, true, true, true, true, true, true, true, true, true, true, true, true, true, true, true, false] rfl rfl (by kernel_rfl) (fun _ _ _ h => h) (Or.inl ⟨by rfl, ?_⟩) ?_ ?_
  rotate_left
  · intro w'
    go_simp
    with_reducible rfl
  rotate_left
  · simp only [Act.put, List.setIfInBounds_toArray, List.set_cons_zero, List.set_cons_succ, i64_w, i32_w]
    rfl
  refine pure_ (i := 16) (N := some 18) (v := ?_) (a' := ?_) #[true, true, true, true, true, true, true, true, true, true, true, true, true, true, true, true, true] rfl rfl (by kernel_rfl) (fun _ _ _ h => h) (Or.inl ⟨by rfl, ?_⟩) ?_ ?_
  rotate_left
  · intro w'
    go_simp
    with_reducible rfl
  rotate_left
  · simp only [Act.put, List.setIfInBounds_toArray, List.set_cons_zero, List.set_cons_succ, i64_w, i32_w]
    rfl
  refine done_ (by kernel_rfl) ?_
  clear x0 x2 hHeld
  go_wp2
  go_end0
  refine ⟨rfl, w.heap.size, ?_, ?_, ?_⟩
  · exact RdAt.below (h.setErr _) (below_drew1 ((Below.refl _ _).alloc (Nat.le_refl _) _))
  · have := heap_alloc_new (w.setCell ⟨B, 2, none⟩ (.pointer (some ⟨w.heap.size, 0, none⟩))) (.cells #[.int .i64 a, .int .i64 15] 52)
    simpa [FltAt, World.drew] using this
  · exact below_drew1 (((Below.refl _ _).setCell h.ge _).alloc (by simpa using Nat.le_trans h.ge (Nat.le_of_lt h.lt)) _)
end Go.Proofs.YtjccmlmkcjmicaaDoor.Rdr
